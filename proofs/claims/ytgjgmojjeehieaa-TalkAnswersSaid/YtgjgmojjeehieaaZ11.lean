/- Texts of this claim, part 11. -/
import Derived.Test.YtgjgmojjeehieaaZ10
set_option linter.unusedSimpArgs false
set_option linter.unusedVariables false
set_option linter.unusedSectionVars false
section
/- Steps of the proofs of this seat: part R4. -/
set_option maxRecDepth 8000
set_option maxHeartbeats 4000000
namespace Go.Proofs.Ytgjgmojjeehieaa
open Go.Proofs Go.RowKit

section
variable {L : List Ev} {key : Int} {k : Nat}
def yo (L : List Ev) (v : List Int) (most : Int) (k : Nat) : List Ev := ((L.take k).filter (xa v)).take most.toNat
theorem YC {v : List Int} {most : Int} (hk : k < L.length) (hl : ((yo L v most k).length : Int) < most) (h : xa v (L.getD k default) = true) : yo L v most (k + 1) = yo L v most k ++ [L.getD k default] := by
  unfold yo at hl ⊢
  rw [xb hk, List.filter_append, List.filter_cons, if_pos h, List.filter_nil]
  rw [List.length_take] at hl
  have hF : ((L.take k).filter (xa v)).length < most.toNat := by omega
  rw [List.take_of_length_le (l := (L.take k).filter (xa v) ++ [L.getD k default]) (by rw [List.length_append, List.length_singleton]; omega), List.take_of_length_le (l := (L.take k).filter (xa v)) (by omega)]
theorem Vn {v : List Int} {most : Int} : (yo L v most k).length ≤ k := by
  have h1 := List.length_filter_le (xa v) (L.take k)
  unfold yo
  rw [List.length_take]
  rw [List.length_take] at h1
  omega
theorem Xv {v : List Int} {most : Int} (hk : k < L.length) (h : xa v (L.getD k default) = false) : yo L v most (k + 1) = yo L v most k := by
  unfold yo
  rw [xb hk, List.filter_append, List.filter_cons, if_neg (by rw [h]; decide), List.filter_nil, List.append_nil]
theorem Vr {v : List Int} {most : Int} (hk : k ≤ L.length) (h : ¬ (k < L.length ∧ ((yo L v most k).length : Int) < most)) : yo L v most k = zA L v most := by
  by_cases h1 : k < L.length
  · have h2 : ¬ ((yo L v most k).length : Int) < most := fun h3 => h ⟨h1, h3⟩
    unfold yo at h2 ⊢
    unfold zA
    rw [List.length_take] at h2
    conv => rhs; rw [← List.take_append_drop k L, List.filter_append]
    rw [List.take_append_of_le_length (by omega)]
  · unfold yo zA
    rw [List.take_of_length_le (by omega : L.length ≤ k)]
theorem ZN {v : List Int} {e : Ev} {n : Int} (h0 : 0 ≤ e.origin) (hn : n = if e.origin < (v.length : Int) then max 0 (v.getD e.origin.toNat 0) else 0) : xa v e = decide (n < e.seq) := by
  unfold xa yq
  subst hn
  by_cases h : e.origin < (v.length : Int)
  · rw [if_neg (by omega), if_pos h]; congr 1; rw [eq_iff_iff]; omega
  · rw [if_pos (by omega), if_neg h]; congr 1
end
theorem ZR {G : Nat → Prop} {W w : World} {Rs : List HP} {b : Nat} {n : Nat} {L : List Ev} (hb : (RefS b n L).p W G) (hS0 : Sep G W Rs w) : Ret Try.prog 50 [.pointer (some ⟨b, 0, none⟩)] w (fun r w' => ∃ (v : Value), r = (v : Value) ∧ Sep G W ((RowE (α := Ev) own 36 v L) :: Rs) w') := by
 refine zq (args := [.pointer (some ⟨b, 0, none⟩)]) Try.func50 rfl rfl ?_
 obtain ⟨vl1, hb2, hl3⟩ := RefS.sh hb
 have hsm4 : L.length * 96 ≤ 140737488355328 := hl3.small
 refine zd ?_
 refine za (by kernel_rfl) (fun _ => ?_)
 refine st (zf (v := (.slice none 0 0)) rfl ?_)
 refine zg ?_
 refine zd ?_
 refine za (by kernel_rfl) (fun _ => ?_)
 refine st (zf (v := (.slice none 0 0)) rfl ?_)
 refine zg ?_
 refine zd ?_
 refine zd ?_
 refine za (by kernel_rfl) (fun _ => ?_)
 refine st (zf (v := .int .i64 (0)) rfl ?_)
 refine zg ?_
 refine zx ?_
 have hS5 : Sep G W ((RowE (α := Ev) own 36 (.slice none 0 0) ([] : List Ev)) :: Rs) w := hS0.rowNil own 36
 refine yb (fun mq σ wq => ∃ (k : Nat) (vo : Value) (ρ : Env), mq = L.length - k ∧ σ = ye ρ [(0, .pointer (some ⟨b, 0, none⟩)), (4, .int .i64 ((k : Nat) : Int)), (3, vo)] ∧ (k ≤ L.length) ∧ Sep G W ((RowE (α := Ev) own 36 vo (L.take k)) :: Rs) wq) ⟨0, (.slice none 0 0), _, rfl, zn ⟨rfl, rfl, rfl, trivial⟩, Nat.zero_le _, hS5⟩ ?_
 rintro m7 σ8 w6 ⟨k, vo, ρl1, rfl, rfl, hkk, hS9⟩
 have hr10 := hS9.row (i := 0) rfl
 have hr10s : _ * 96 ≤ _ := hr10.2
 refine zd ?_
 refine zd ?_
 refine za (by kernel_rfl) (fun _ => ?_)
 refine st (zb (v := .int .i64 ((k : Nat) : Int)) rfl ?_)
 refine st (zb (v := .pointer (some ⟨b, 0, none⟩)) rfl ?_)
 refine st (zC (b := b) (o := 0) rfl ?_)
 refine st (yQ rfl ?_)
 refine st (zh (v := vl1) Try.isAgg22 rfl (zi (hS9.gblk hb2) rfl) ?_)
 refine st (zB (n := L.length) Try.underlying22 rfl hl3.sl ?_)
 refine st (zJ (k := .i64) (a := ((k : Nat) : Int)) (b := ((L.length : Nat) : Int)) rfl rfl ?_)
 refine zg ?_
 cases hc11 : decide (((k : Nat) : Int) < ((L.length : Nat) : Int))
 ·skip
  have hc11 := of_decide_eq_false hc11
  refine zk rfl ?_
  refine ya ?_
  refine zQ ?_
  refine zd ?_
  refine za (by kernel_rfl) (fun _ => ?_)
  refine st (zb (v := vo) rfl ?_)
  refine st (zf (v := vo) rfl ?_)
  refine zg ?_
  refine zw ?_
  refine zM Try.results50 (show _ = (vo : Value) from rfl) ?_
  have hk9 : k = L.length := by omega
  rw [hk9, List.take_length] at hS9
  refine ⟨vo, rfl, hS9⟩
 ·skip
  have hc11 := of_decide_eq_true hc11
  refine zm rfl ?_
  refine zp ?_
  refine zd ?_
  refine zx ?_
  refine za (by kernel_rfl) (fun _ => ?_)
  refine st (zb (v := vo) rfl ?_)
  refine st (zb (v := .pointer (some ⟨b, 0, none⟩)) rfl ?_)
  refine st (zC (b := b) (o := 0) rfl ?_)
  refine st (yQ rfl ?_)
  refine st (zh (v := vl1) Try.isAgg22 rfl (zi (hS9.gblk hb2) rfl) ?_)
  refine st (zb (v := .int .i64 ((k : Nat) : Int)) rfl ?_)
  have hi12 : k < L.length := (by first | omega | (simp only [zu]; omega))
  refine st (zl (k := 10) (i := k) Try.underlying22 Try.sizeOf36 rfl hl3.sl rfl hi12 ?_)
  have hi14 : k < L.length := (by first | omega | (simp only [zu]; omega))
  obtain ⟨hce13, hde13_0, hoke13⟩ := hl3.ev hi14
  rw [← zo default hi14] at hce13 hde13_0 hoke13
  have hsm15 : ((L.getD k default).deps).length * 8 ≤ 140737488355328 := hde13_0.small
  have hcw16 := hS9.cells hce13 (hl3.foot (ne_of_lt hi14))
  refine st (zv (k := 10) Try.isAgg36 Try.sizeOf36 rfl rfl hcw16 ?_)
  refine st (zj (f := 35) (vals := [.agg ((L.getD k default).cells (zR W (sb vl1) (so vl1 + k * 10 + 3))).toArray]) (cap := []) rfl rfl Try.call35 (yN (e := (L.getD k default)) hde13_0 hoke13 hS9) ?_)
  rintro _ w18 ⟨v17, rfl, hS19⟩
  have hr20 := hS19.row (i := 0) rfl
  have hr20s : _ * 8 ≤ _ := hr20.2
  refine st (zz (k := 10) (parts' := [(0, .agg ((L.getD k default).cells v17).toArray)]) (c := ((L.getD k default).cells v17).toArray) Try.underlying22 Try.sizeOf36 Try.zeroValue36 (by decide) rfl (by kernel_rfl) ?_)
  intro w23 b22 hn21
  have hS24 := hS19.new hn21
  have hbk28 := hS24.blk (i := 0) rfl
  have hS29 : Sep G W ((RowE (α := Ev) own 36 vo (L.take k)) :: (RowE (α := Int) own 3 v17 ((L.getD k default).deps)) :: Rs) w23 := hS24.sel 3 [2, 1] (Nat.le_add_left _ _) rfl rfl
  refine st (zN (src := own) (bytes := 96) (x1 := (L.getD k default)) hS29 Xa rfl rfl hbk28 (fun _ _ hN => ⟨_, rfl, RowE.soft hN, hoke13⟩) (by first | omega | (simp only [List.length_append, List.length_cons, List.length_nil, List.length_take, List.length_drop]; omega)) rfl ?_)
  intro v26 w25 hS27
  have hr30 := hS27.row (i := 0) rfl
  have hr30s : _ * 96 ≤ _ := hr30.2
  refine st (zf (v := v26) rfl ?_)
  refine zg ?_
  refine za (by kernel_rfl) (fun _ => ?_)
  refine st (zb (v := .int .i64 ((k : Nat) : Int)) rfl ?_)
  have hr31 : InR ((k + 1 : Nat) : Int) := by first | omega | (simp only [zu]; omega)
  refine st (zU (r := ((k + 1 : Nat) : Int)) (k := .i64) (a := ((k : Nat) : Int)) (b := 1) rfl rfl (by rw [show (((k : Nat) : Int) + 1 : Int) = ((k + 1 : Nat) : Int) by first | omega | (simp only [zu]; omega)]; exact zH hr31) ?_)
  refine st (zf (v := .int .i64 ((k + 1 : Nat) : Int)) rfl ?_)
  refine zg ?_
  have hL32 : (L.take (k + 1)) = (L.take k) ++ [(L.getD k default)] := (List.take_getD (by omega))
  rw [← hL32] at hS27
  exact ⟨_, by omega, k + 1, v26, _, rfl, zn ⟨rfl, rfl, rfl, trivial⟩, by omega, hS27⟩

theorem Wd {G : Nat → Prop} {W w : World} {Rs : List HP} {b : Nat} {n : Nat} {L : List Ev} (hb : (RefS b n L).p W G) {vl : Value} {l : List Int} (hl : RdS W G vl l) {most : Int} (hmost : InR most) (hS0 : Sep G W Rs w) (hG : Good n L) : Ret Try.prog 71 [.pointer (some ⟨b, 0, none⟩), vl, .int .i64 (most)] w (fun r w' => ∃ (v : Value), r = (v : Value) ∧ Sep G W ((RowE (α := Ev) own 36 v (zA L l most)) :: Rs) w') := by
 have hls : _ * 8 ≤ _ := hl.small
 refine zq (args := [.pointer (some ⟨b, 0, none⟩), vl, .int .i64 (most)]) Try.func71 rfl rfl ?_
 obtain ⟨vl1, hb2, hl3⟩ := RefS.sh hb
 have hsm4 : L.length * 96 ≤ 140737488355328 := hl3.small
 refine zd ?_
 refine za (by kernel_rfl) (fun _ => ?_)
 refine st (zf (v := (.slice none 0 0)) rfl ?_)
 refine zg ?_
 refine zd ?_
 refine za (by kernel_rfl) (fun _ => ?_)
 refine st (zf (v := (.slice none 0 0)) rfl ?_)
 refine zg ?_
 refine zd ?_
 refine zd ?_
 refine za (by kernel_rfl) (fun _ => ?_)
 refine st (zf (v := .int .i64 (0)) rfl ?_)
 refine zg ?_
 refine zx ?_
 have hS5 : Sep G W ((RowE (α := Ev) own 36 (.slice none 0 0) ([] : List Ev)) :: Rs) w := hS0.rowNil own 36
 refine yb (fun mq σ wq => ∃ (k : Nat) (vo : Value) (ρ : Env), mq = L.length - k ∧ σ = ye ρ [(0, .pointer (some ⟨b, 0, none⟩)), (1, vl), (2, .int .i64 (most)), (8, .int .i64 ((k : Nat) : Int)), (7, vo)] ∧ (k ≤ L.length) ∧ Sep G W ((RowE (α := Ev) own 36 vo (yo L l most k)) :: Rs) wq) ⟨0, (.slice none 0 0), _, rfl, zn ⟨rfl, rfl, rfl, rfl, rfl, trivial⟩, Nat.zero_le _, (by rw [show yo L l most 0 = [] from by unfold yo; simp]; exact hS5)⟩ ?_
 rintro m7 σ8 w6 ⟨k, vo, ρl1, rfl, rfl, hkk, hS9⟩
 have hr10 := hS9.row (i := 0) rfl
 have hr10s : _ * 96 ≤ _ := hr10.2
 have hml9 := Vn (L := L) (v := l) (most := most) (k := k)
 refine zd ?_
 refine zd ?_
 refine zF (by kernel_rfl) ?_
 refine st (zb (v := .int .i64 ((k : Nat) : Int)) rfl ?_)
 refine st (zb (v := .pointer (some ⟨b, 0, none⟩)) rfl ?_)
 refine st (zC (b := b) (o := 0) rfl ?_)
 refine st (yQ rfl ?_)
 refine st (zh (v := vl1) Try.isAgg22 rfl (zi (hS9.gblk hb2) rfl) ?_)
 refine st (zB (n := L.length) Try.underlying22 rfl hl3.sl ?_)
 refine st (zJ (k := .i64) (a := ((k : Nat) : Int)) (b := ((L.length : Nat) : Int)) rfl rfl ?_)
 refine st (zb (v := .bool (decide (((k : Nat) : Int) < ((L.length : Nat) : Int)))) rfl ?_)
 refine stc (V := vo) rfl rfl (fun hb11 => ?_) ?_
 ·have hl12 := hb11
  have hl12 := of_decide_eq_true hl12
  exact zb (v := vo) rfl ⟨rfl, rfl⟩
 refine stc (V := .int .i64 (((yo L l most k).length : Nat) : Int)) rfl rfl (fun hb13 => ?_) ?_
 ·have hl14 := hb13
  have hl14 := of_decide_eq_true hl14
  exact zB (n := (yo L l most k).length) Try.underlying22 (show _ = (vo : Value) from (if_pos hb13)) hr10.1 ⟨rfl, rfl⟩
 refine stc (V := .int .i64 (most)) rfl rfl (fun hb15 => ?_) ?_
 ·have hl16 := hb15
  have hl16 := of_decide_eq_true hl16
  exact zb (v := .int .i64 (most)) rfl ⟨rfl, rfl⟩
 refine stc (V := .bool (decide ((((yo L l most k).length : Nat) : Int) < most))) rfl rfl (fun hb17 => ?_) ?_
 ·have hl18 := hb17
  have hl18 := of_decide_eq_true hl18
  exact zJ (k := .i64) (a := (((yo L l most k).length : Nat) : Int)) (b := most) (show _ = (.int .i64 (((yo L l most k).length : Nat) : Int) : Value) from (if_pos hb17)) (show _ = (.int .i64 (most) : Value) from (if_pos hb17)) ⟨rfl, rfl⟩
 refine st (zI (b := decide (((k : Nat) : Int) < ((L.length : Nat) : Int))) (b' := decide ((((yo L l most k).length : Nat) : Int) < most)) rfl (fun hbp => (show _ = (.bool (decide ((((yo L l most k).length : Nat) : Int) < most)) : Value) from (if_pos hbp))) ?_)
 refine zg ?_
 cases hc19 : (decide (((k : Nat) : Int) < ((L.length : Nat) : Int))) && (decide ((((yo L l most k).length : Nat) : Int) < most))
 ·skip
  try simp only [zr] at hc19
  refine zk rfl ?_
  refine ya ?_
  refine zQ ?_
  refine zd ?_
  refine za (by kernel_rfl) (fun _ => ?_)
  refine st (zb (v := vo) rfl ?_)
  refine st (zf (v := vo) rfl ?_)
  refine zg ?_
  refine zw ?_
  refine zM Try.results71 (show _ = (vo : Value) from rfl) ?_
  rw [Vr (by omega) (by omega)] at hS9
  refine ⟨vo, rfl, hS9⟩
 ·skip
  try simp only [zr] at hc19
  refine zm rfl ?_
  refine zp ?_
  refine zd ?_
  refine zx ?_
  refine zd ?_
  obtain ⟨⟨ho9, ho9'⟩, hd9⟩ := hG.chk_at (i := k) (by omega)
  refine za (by kernel_rfl) (fun _ => ?_)
  refine st (zb (v := .pointer (some ⟨b, 0, none⟩)) rfl ?_)
  refine st (zC (b := b) (o := 0) rfl ?_)
  refine st (yQ rfl ?_)
  refine st (zh (v := vl1) Try.isAgg22 rfl (zi (hS9.gblk hb2) rfl) ?_)
  refine st (zb (v := .int .i64 ((k : Nat) : Int)) rfl ?_)
  have hi20 : k < L.length := (by first | omega | (simp only [zu]; omega))
  refine st (zl (k := 10) (i := k) Try.underlying22 Try.sizeOf36 rfl hl3.sl rfl hi20 ?_)
  have hi22 : k < L.length := (by first | omega | (simp only [zu]; omega))
  obtain ⟨hce21, hde21_0, hoke21⟩ := hl3.ev hi22
  rw [← zo default hi22] at hce21 hde21_0 hoke21
  have hsm23 : ((L.getD k default).deps).length * 8 ≤ 140737488355328 := hde21_0.small
  have hcw24 := hS9.cells hce21 (hl3.foot (ne_of_lt hi22))
  refine st (zv (k := 10) Try.isAgg36 Try.sizeOf36 rfl rfl hcw24 ?_)
  refine st (zX Try.zeroValue36 ?_)
  intro w27 b26 hn25
  have hS28 := hS9.new hn25
  refine stn (zT (v := .agg ((L.getD k default).cells (zR W (sb vl1) (so vl1 + k * 10 + 3))).toArray) (c' := ((L.getD k default).cells (zR W (sb vl1) (so vl1 + k * 10 + 3))).toArray) Try.sizeOf36 rfl rfl (hS28.blk (i := 0) rfl) (yz ⟨rfl, rfl, rfl, hde21_0.sl.one, rfl, rfl, rfl, rfl, rfl, rfl, trivial⟩) (Nat.le_of_ble_eq_true rfl) rfl ?_)
  intro w29 hp30
  have hS31 := hS28.pt0 hp30
  refine zg ?_
  refine zd ?_
  refine za (by kernel_rfl) (fun _ => ?_)
  refine st (zf (v := .int .i64 (0)) rfl ?_)
  refine zg ?_
  refine zd ?_
  refine zd ?_
  refine za (by kernel_rfl) (fun _ => ?_)
  refine st (yd rfl ?_)
  refine st (yE rfl ?_)
  refine st (zh (v := .int .i64 ((L.getD k default).origin)) Try.isAgg3 rfl (zi (hS31.blk (i := 0) rfl) rfl) ?_)
  refine st (zb (v := vl) rfl ?_)
  refine st (zB (n := l.length) Try.underlying34 rfl hl.sl ?_)
  refine st (zJ (k := .i64) (a := (L.getD k default).origin) (b := ((l.length : Nat) : Int)) rfl rfl ?_)
  refine zg ?_
  cases hc32 : decide (((L.getD k default).origin) < ((l.length : Nat) : Int))
  ·skip
   have hc32 := of_decide_eq_false hc32
   refine zk rfl ?_
   refine zp ?_
   refine zd ?_
   refine za (by kernel_rfl) (fun _ => ?_)
   refine st (yd rfl ?_)
   refine st (xe rfl ?_)
   refine st (zh (v := .int .i64 ((L.getD k default).seq)) Try.isAgg3 rfl (zi (hS31.blk (i := 0) rfl) rfl) ?_)
   refine st (zb (v := .int .i64 (0)) rfl ?_)
   refine st (yy (k := .i64) (a := (L.getD k default).seq) (b := 0) rfl rfl ?_)
   refine zg ?_
   cases hc33 : decide (0 < ((L.getD k default).seq))
   ·skip
    have hc33 := of_decide_eq_false hc33
    refine zk rfl ?_
    refine zp ?_
    refine za (by kernel_rfl) (fun _ => ?_)
    refine st (zb (v := .int .i64 ((k : Nat) : Int)) rfl ?_)
    have hr34 : InR ((k + 1 : Nat) : Int) := by first | omega | (simp only [zu]; omega)
    refine st (zU (r := ((k + 1 : Nat) : Int)) (k := .i64) (a := ((k : Nat) : Int)) (b := 1) rfl rfl (by rw [show (((k : Nat) : Int) + 1 : Int) = ((k + 1 : Nat) : Int) by first | omega | (simp only [zu]; omega)]; exact zH hr34) ?_)
    refine st (zf (v := .int .i64 ((k + 1 : Nat) : Int)) rfl ?_)
    refine zg ?_
    have hS35 : Sep G W ((RowE (α := Ev) own 36 vo (yo L l most k)) :: Rs) w29 := hS31.sel 2 [1] (Nat.le_add_left _ _) rfl rfl
    have hL36 : (yo L l most (k + 1)) = (yo L l most k) := (Xv (by omega) ((ZN (hG.chk_at (i := k) (by omega)).1.1 (by first | rw [if_pos (by omega)] | rw [if_neg (by omega)])).trans (decide_eq_false (by omega))))
    rw [← hL36] at hS35
    exact ⟨_, by omega, k + 1, vo, _, rfl, zn ⟨rfl, rfl, rfl, rfl, rfl, trivial⟩, by omega, hS35⟩
   ·skip
    have hc33 := of_decide_eq_true hc33
    refine zm rfl ?_
    refine za (by kernel_rfl) (fun _ => ?_)
    refine st (zb (v := vo) rfl ?_)
    refine st (zv (k := 10) Try.isAgg36 Try.sizeOf36 rfl rfl (CellsAt.all (hS31.blk (i := 0) rfl)) ?_)
    refine st (zj (f := 35) (vals := [.agg ((L.getD k default).cells (zR W (sb vl1) (so vl1 + k * 10 + 3))).toArray]) (cap := []) rfl rfl Try.call35 (yN (e := (L.getD k default)) hde21_0 hoke21 hS31) ?_)
    rintro _ w38 ⟨v37, rfl, hS39⟩
    have hr40 := hS39.row (i := 0) rfl
    have hr40s : _ * 8 ≤ _ := hr40.2
    refine st (zz (k := 10) (parts' := [(0, .agg ((L.getD k default).cells v37).toArray)]) (c := ((L.getD k default).cells v37).toArray) Try.underlying22 Try.sizeOf36 Try.zeroValue36 (by decide) rfl (by kernel_rfl) ?_)
    intro w43 b42 hn41
    have hS44 := hS39.new hn41
    have hbk48 := hS44.blk (i := 0) rfl
    have hS49 : Sep G W ((RowE (α := Ev) own 36 vo (yo L l most k)) :: (RowE (α := Int) own 3 v37 ((L.getD k default).deps)) :: (Blk b26 ((L.getD k default).cells (zR W (sb vl1) (so vl1 + k * 10 + 3))).toArray 36) :: Rs) w43 := hS44.sel 4 [3, 1, 2] (Nat.le_add_left _ _) rfl rfl
    refine st (zN (src := own) (bytes := 96) (x1 := (L.getD k default)) hS49 Xa rfl rfl hbk48 (fun _ _ hN => ⟨_, rfl, RowE.soft hN, hoke21⟩) (by first | omega | (simp only [List.length_append, List.length_cons, List.length_nil, List.length_take, List.length_drop]; omega)) rfl ?_)
    intro v46 w45 hS47
    have hr50 := hS47.row (i := 0) rfl
    have hr50s : _ * 96 ≤ _ := hr50.2
    refine st (zf (v := v46) rfl ?_)
    refine zg ?_
    refine za (by kernel_rfl) (fun _ => ?_)
    refine st (zb (v := .int .i64 ((k : Nat) : Int)) rfl ?_)
    have hr51 : InR ((k + 1 : Nat) : Int) := by first | omega | (simp only [zu]; omega)
    refine st (zU (r := ((k + 1 : Nat) : Int)) (k := .i64) (a := ((k : Nat) : Int)) (b := 1) rfl rfl (by rw [show (((k : Nat) : Int) + 1 : Int) = ((k + 1 : Nat) : Int) by first | omega | (simp only [zu]; omega)]; exact zH hr51) ?_)
    refine st (zf (v := .int .i64 ((k + 1 : Nat) : Int)) rfl ?_)
    refine zg ?_
    have hS52 : Sep G W ((RowE (α := Ev) own 36 v46 ((yo L l most k) ++ [(L.getD k default)])) :: Rs) w45 := hS47.sel 2 [0] (Nat.le_add_left _ _) rfl rfl
    have hL53 : (yo L l most (k + 1)) = (yo L l most k) ++ [(L.getD k default)] := (YC (by omega) (by omega) ((ZN (hG.chk_at (i := k) (by omega)).1.1 (by first | rw [if_pos (by omega)] | rw [if_neg (by omega)])).trans (decide_eq_true (by omega))))
    rw [← hL53] at hS52
    exact ⟨_, by omega, k + 1, v46, _, rfl, zn ⟨rfl, rfl, rfl, rfl, rfl, trivial⟩, by omega, hS52⟩
  ·skip
   have hc32 := of_decide_eq_true hc32
   refine zm rfl ?_
   refine za (by kernel_rfl) (fun _ => ?_)
   refine st (zb (v := vl) rfl ?_)
   refine st (yd rfl ?_)
   refine st (yE rfl ?_)
   refine st (zh (v := .int .i64 ((L.getD k default).origin)) Try.isAgg3 rfl (zi (hS31.blk (i := 0) rfl) rfl) ?_)
   have hi54 : ((L.getD k default).origin).toNat < l.length := (by first | omega | (simp only [zu]; omega))
   refine st (yn (k := 1) (i := (L.getD k default).origin) Try.underlying34 Try.sizeOf3 rfl hl.sl rfl ⟨by omega, by omega⟩ ?_)
   have hi56 : ((L.getD k default).origin).toNat < l.length := (by first | omega | (simp only [zu]; omega))
   obtain ⟨hce55, hxe55⟩ := hl.int hi56
   rw [← zo 0 hi56] at hce55 hxe55
   have hcw57 := hS31.cells hce55 (hl.foot (ne_of_lt hi56))
   refine st (zh (v := .int .i64 ((l.getD (((L.getD k default).origin).toNat) 0))) Try.isAgg3 rfl (hcw57.get (j := 0) rfl) ?_)
   refine st (xE (k := .i64) (a := 0) (b := (l.getD (((L.getD k default).origin).toNat) 0)) rfl rfl ?_)
   refine st (zf (v := .int .i64 (max 0 (l.getD (((L.getD k default).origin).toNat) 0))) rfl ?_)
   refine zg ?_
   refine zd ?_
   refine za (by kernel_rfl) (fun _ => ?_)
   refine st (yd rfl ?_)
   refine st (xe rfl ?_)
   refine st (zh (v := .int .i64 ((L.getD k default).seq)) Try.isAgg3 rfl (zi (hS31.blk (i := 0) rfl) rfl) ?_)
   refine st (zb (v := .int .i64 (max 0 (l.getD (((L.getD k default).origin).toNat) 0))) rfl ?_)
   refine st (yy (k := .i64) (a := (L.getD k default).seq) (b := max 0 (l.getD (((L.getD k default).origin).toNat) 0)) rfl rfl ?_)
   refine zg ?_
   cases hc58 : decide ((max 0 (l.getD (((L.getD k default).origin).toNat) 0)) < ((L.getD k default).seq))
   ·skip
    have hc58 := of_decide_eq_false hc58
    refine zk rfl ?_
    refine zp ?_
    refine za (by kernel_rfl) (fun _ => ?_)
    refine st (zb (v := .int .i64 ((k : Nat) : Int)) rfl ?_)
    have hr59 : InR ((k + 1 : Nat) : Int) := by first | omega | (simp only [zu]; omega)
    refine st (zU (r := ((k + 1 : Nat) : Int)) (k := .i64) (a := ((k : Nat) : Int)) (b := 1) rfl rfl (by rw [show (((k : Nat) : Int) + 1 : Int) = ((k + 1 : Nat) : Int) by first | omega | (simp only [zu]; omega)]; exact zH hr59) ?_)
    refine st (zf (v := .int .i64 ((k + 1 : Nat) : Int)) rfl ?_)
    refine zg ?_
    have hS60 : Sep G W ((RowE (α := Ev) own 36 vo (yo L l most k)) :: Rs) w29 := hS31.sel 2 [1] (Nat.le_add_left _ _) rfl rfl
    have hL61 : (yo L l most (k + 1)) = (yo L l most k) := (Xv (by omega) ((ZN (hG.chk_at (i := k) (by omega)).1.1 (by first | rw [if_pos (by omega)] | rw [if_neg (by omega)])).trans (decide_eq_false (by omega))))
    rw [← hL61] at hS60
    exact ⟨_, by omega, k + 1, vo, _, rfl, zn ⟨rfl, rfl, rfl, rfl, rfl, trivial⟩, by omega, hS60⟩
   ·skip
    have hc58 := of_decide_eq_true hc58
    refine zm rfl ?_
    refine za (by kernel_rfl) (fun _ => ?_)
    refine st (zb (v := vo) rfl ?_)
    refine st (zv (k := 10) Try.isAgg36 Try.sizeOf36 rfl rfl (CellsAt.all (hS31.blk (i := 0) rfl)) ?_)
    refine st (zj (f := 35) (vals := [.agg ((L.getD k default).cells (zR W (sb vl1) (so vl1 + k * 10 + 3))).toArray]) (cap := []) rfl rfl Try.call35 (yN (e := (L.getD k default)) hde21_0 hoke21 hS31) ?_)
    rintro _ w63 ⟨v62, rfl, hS64⟩
    have hr65 := hS64.row (i := 0) rfl
    have hr65s : _ * 8 ≤ _ := hr65.2
    refine st (zz (k := 10) (parts' := [(0, .agg ((L.getD k default).cells v62).toArray)]) (c := ((L.getD k default).cells v62).toArray) Try.underlying22 Try.sizeOf36 Try.zeroValue36 (by decide) rfl (by kernel_rfl) ?_)
    intro w68 b67 hn66
    have hS69 := hS64.new hn66
    have hbk73 := hS69.blk (i := 0) rfl
    have hS74 : Sep G W ((RowE (α := Ev) own 36 vo (yo L l most k)) :: (RowE (α := Int) own 3 v62 ((L.getD k default).deps)) :: (Blk b26 ((L.getD k default).cells (zR W (sb vl1) (so vl1 + k * 10 + 3))).toArray 36) :: Rs) w68 := hS69.sel 4 [3, 1, 2] (Nat.le_add_left _ _) rfl rfl
    refine st (zN (src := own) (bytes := 96) (x1 := (L.getD k default)) hS74 Xa rfl rfl hbk73 (fun _ _ hN => ⟨_, rfl, RowE.soft hN, hoke21⟩) (by first | omega | (simp only [List.length_append, List.length_cons, List.length_nil, List.length_take, List.length_drop]; omega)) rfl ?_)
    intro v71 w70 hS72
    have hr75 := hS72.row (i := 0) rfl
    have hr75s : _ * 96 ≤ _ := hr75.2
    refine st (zf (v := v71) rfl ?_)
    refine zg ?_
    refine za (by kernel_rfl) (fun _ => ?_)
    refine st (zb (v := .int .i64 ((k : Nat) : Int)) rfl ?_)
    have hr76 : InR ((k + 1 : Nat) : Int) := by first | omega | (simp only [zu]; omega)
    refine st (zU (r := ((k + 1 : Nat) : Int)) (k := .i64) (a := ((k : Nat) : Int)) (b := 1) rfl rfl (by rw [show (((k : Nat) : Int) + 1 : Int) = ((k + 1 : Nat) : Int) by first | omega | (simp only [zu]; omega)]; exact zH hr76) ?_)
    refine st (zf (v := .int .i64 ((k + 1 : Nat) : Int)) rfl ?_)
    refine zg ?_
    have hS77 : Sep G W ((RowE (α := Ev) own 36 v71 ((yo L l most k) ++ [(L.getD k default)])) :: Rs) w70 := hS72.sel 2 [0] (Nat.le_add_left _ _) rfl rfl
    have hL78 : (yo L l most (k + 1)) = (yo L l most k) ++ [(L.getD k default)] := (YC (by omega) (by omega) ((ZN (hG.chk_at (i := k) (by omega)).1.1 (by first | rw [if_pos (by omega)] | rw [if_neg (by omega)])).trans (decide_eq_true (by omega))))
    rw [← hL78] at hS77
    exact ⟨_, by omega, k + 1, v71, _, rfl, zn ⟨rfl, rfl, rfl, rfl, rfl, trivial⟩, by omega, hS77⟩

end Go.Proofs.Ytgjgmojjeehieaa
end

section
/- Steps of the proofs of this seat: part B8. -/
set_option maxRecDepth 8000
set_option maxHeartbeats 4000000
namespace Go.Proofs.Ytgjgmojjeehieaa
open Go.Proofs Go.RowKit

section
variable {n : Nat} {S : List Ev} {j : Nat}
end
end Go.Proofs.Ytgjgmojjeehieaa
end

section
/- Plain laws of answers: what is fed is what was lacking; two sets meet. -/
namespace Go.Proofs.Ytgjgmojjeehieaa

section
variable {n : Nat} {A B L S T U : List Ev} {e x y : Ev} {m : Nat}
end

structure Meet (n : Nat) (U A B : List Ev) : Prop where
  u : Good n U
  a : Part n U A
  b : Part n U B
  c : ∀ x ∈ U, x ∈ A ∨ x ∈ B
section
variable {n : Nat} {A B S U C D : List Ev} {m : Nat}
theorem Meet.symm (h : Meet n U A B) : Meet n U B A := ⟨h.u, h.b, h.a, fun x hx => (h.c x hx).symm⟩
end

section
variable {n : Nat} {A B L : List Ev} {m : Msg} {self c : Int}
end
section
variable {n : Nat} {A B S U : List Ev} {self f t : Int}
end
end Go.Proofs.Ytgjgmojjeehieaa
end

section
/- Steps of the proofs of this seat: part R7. -/
set_option maxRecDepth 8000
set_option maxHeartbeats 4000000
namespace Go.Proofs.Ytgjgmojjeehieaa
open Go.Proofs Go.RowKit

theorem xD {G : Nat → Prop} {W w : World} {Rs : List HP} {b : Nat} {n : Nat} {L : List Ev} (hb : (RefS b n L).p W G) {fr : Int} (hfr : InR fr) {tt : Int} (htt : InR tt) (hS0 : Sep G W Rs w) (hG : Good n L) (hn : n ≤ 1000) : Ret Try.prog 48 [.pointer (some ⟨b, 0, none⟩), .int .i64 (fr), .int .i64 (tt)] w (fun r w' => ∃ (v : Value), r = (.agg ((⟨1, fr, tt, zc n L, []⟩ : Msg).cells v (.slice none 0 0)).toArray : Value) ∧ ((⟨1, fr, tt, zc n L, []⟩ : Msg).Ok) ∧ Sep G W ((RowE (α := Int) own 3 v (zc n L)) :: Rs) w') := by
 refine zq (args := [.pointer (some ⟨b, 0, none⟩), .int .i64 (fr), .int .i64 (tt)]) Try.func48 rfl rfl ?_
 obtain ⟨vl1, hb2, hl3⟩ := RefS.sh hb
 have hsm4 : L.length * 96 ≤ 140737488355328 := hl3.small
 refine zd ?_
 refine za (by kernel_rfl) (fun _ => ?_)
 refine st (zX Try.zeroValue57 ?_)
 intro w7 b6 hn5
 have hS8 := hS0.new hn5
 refine zg ?_
 refine zd ?_
 refine za (by kernel_rfl) (fun _ => ?_)
 refine st (zb (v := .int .i64 (fr)) rfl ?_)
 refine st (zb (v := .int .i64 (tt)) rfl ?_)
 refine st (zb (v := .pointer (some ⟨b, 0, none⟩)) rfl ?_)
 refine st (zj (f := 51) (vals := [.pointer (some ⟨b, 0, none⟩)]) (cap := []) rfl rfl Try.call51 (xy  hb hS8 (hG) (hn)) ?_)
 rintro v9 w10 ⟨_, rfl, hS11⟩
 have hr12 := hS11.row (i := 0) rfl
 have hr12s : _ * 8 ≤ _ := hr12.2
 have ok13 : Msg.Ok (⟨1, fr, tt, zc n L, []⟩ : Msg) := ⟨(show InR (1) from (by decide)), (show InR (fr) from hfr), (show InR (tt) from htt)⟩
 refine st (zW (parts' := [(0, .int .i64 (1)), (1, .int .i64 (fr)), (2, .int .i64 (tt)), (3, v9)]) (v := .agg ((⟨1, fr, tt, zc n L, []⟩ : Msg).cells v9 (.slice none 0 0)).toArray) rfl (by obtain ⟨_, _, hv14, _⟩ := hr12.1; rw [show v9 = Value.slice _ _ _ from hv14]; simp [Instr.build, Instr.fill, go_sem, Msg.cells]) ?_)
 refine stn (zT (v := .agg ((⟨1, fr, tt, zc n L, []⟩ : Msg).cells v9 (.slice none 0 0)).toArray) (c' := ((⟨1, fr, tt, zc n L, []⟩ : Msg).cells v9 (.slice none 0 0)).toArray) Try.sizeOf57 rfl rfl (hS11.blk (i := 1) rfl) (yz ⟨rfl, rfl, rfl, hr12.1.one, rfl, trivial⟩) (Nat.le_of_ble_eq_true rfl) rfl ?_)
 intro w15 hp16
 have hS17 := hS11.pt1 hp16
 refine zg ?_
 refine zw ?_
 refine XR (b := b6) Try.results48 Try.isAgg57 Try.sizeOf57 rfl rfl (CellsAt.all (hS17.blk (i := 1) rfl)) ?_
 have hS18 : Sep G W ((RowE (α := Int) own 3 v9 (zc n L)) :: Rs) w15 := hS17.sel 2 [0] (Nat.le_add_left _ _) rfl rfl
 refine ⟨v9, rfl, ?_, hS18⟩
 assumption

theorem ZC {G : Nat → Prop} {W w : World} {Rs : List HP} {b : Nat} {n : Nat} {L : List Ev} (hb : (RefS b n L).p W G) {fr : Int} (hfr : InR fr) {tt : Int} (htt : InR tt) (hS0 : Sep G W Rs w) (hG : Good n L) (hn : n ≤ 1000) : Ret Try.prog 49 [.pointer (some ⟨b, 0, none⟩), .int .i64 (fr), .int .i64 (tt)] w (fun r w' => ∃ (v : Value), r = (.agg ((⟨4, fr, tt, zc n L, []⟩ : Msg).cells v (.slice none 0 0)).toArray : Value) ∧ ((⟨4, fr, tt, zc n L, []⟩ : Msg).Ok) ∧ Sep G W ((RowE (α := Int) own 3 v (zc n L)) :: Rs) w') := by
 refine zq (args := [.pointer (some ⟨b, 0, none⟩), .int .i64 (fr), .int .i64 (tt)]) Try.func49 rfl rfl ?_
 obtain ⟨vl1, hb2, hl3⟩ := RefS.sh hb
 have hsm4 : L.length * 96 ≤ 140737488355328 := hl3.small
 refine zd ?_
 refine za (by kernel_rfl) (fun _ => ?_)
 refine st (zX Try.zeroValue57 ?_)
 intro w7 b6 hn5
 have hS8 := hS0.new hn5
 refine zg ?_
 refine zd ?_
 refine za (by kernel_rfl) (fun _ => ?_)
 refine st (zb (v := .int .i64 (fr)) rfl ?_)
 refine st (zb (v := .int .i64 (tt)) rfl ?_)
 refine st (zb (v := .pointer (some ⟨b, 0, none⟩)) rfl ?_)
 refine st (zj (f := 51) (vals := [.pointer (some ⟨b, 0, none⟩)]) (cap := []) rfl rfl Try.call51 (xy  hb hS8 (hG) (hn)) ?_)
 rintro v9 w10 ⟨_, rfl, hS11⟩
 have hr12 := hS11.row (i := 0) rfl
 have hr12s : _ * 8 ≤ _ := hr12.2
 have ok13 : Msg.Ok (⟨4, fr, tt, zc n L, []⟩ : Msg) := ⟨(show InR (4) from (by decide)), (show InR (fr) from hfr), (show InR (tt) from htt)⟩
 refine st (zW (parts' := [(0, .int .i64 (4)), (1, .int .i64 (fr)), (2, .int .i64 (tt)), (3, v9)]) (v := .agg ((⟨4, fr, tt, zc n L, []⟩ : Msg).cells v9 (.slice none 0 0)).toArray) rfl (by obtain ⟨_, _, hv14, _⟩ := hr12.1; rw [show v9 = Value.slice _ _ _ from hv14]; simp [Instr.build, Instr.fill, go_sem, Msg.cells]) ?_)
 refine stn (zT (v := .agg ((⟨4, fr, tt, zc n L, []⟩ : Msg).cells v9 (.slice none 0 0)).toArray) (c' := ((⟨4, fr, tt, zc n L, []⟩ : Msg).cells v9 (.slice none 0 0)).toArray) Try.sizeOf57 rfl rfl (hS11.blk (i := 1) rfl) (yz ⟨rfl, rfl, rfl, hr12.1.one, rfl, trivial⟩) (Nat.le_of_ble_eq_true rfl) rfl ?_)
 intro w15 hp16
 have hS17 := hS11.pt1 hp16
 refine zg ?_
 refine zw ?_
 refine XR (b := b6) Try.results49 Try.isAgg57 Try.sizeOf57 rfl rfl (CellsAt.all (hS17.blk (i := 1) rfl)) ?_
 have hS18 : Sep G W ((RowE (α := Int) own 3 v9 (zc n L)) :: Rs) w15 := hS17.sel 2 [0] (Nat.le_add_left _ _) rfl rfl
 refine ⟨v9, rfl, ?_, hS18⟩
 assumption

def zt (a v : List Int) (k : Nat) : Bool := (List.range k).any fun i => decide (0 < a.getD i 0) && (decide (((v.length : Nat) : Int) ≤ ((i : Nat) : Int)) || decide (v.getD i 0 < a.getD i 0))
theorem moreK_succ {a v : List Int} {k : Nat} : zt a v (k + 1) = (zt a v k || (decide (0 < a.getD k 0) && (decide (((v.length : Nat) : Int) ≤ ((k : Nat) : Int)) || decide (v.getD k 0 < a.getD k 0)))) := by
  unfold zt
  rw [List.range_succ, List.any_append]; simp
theorem WG {a v : List Int} {i : Nat} : (i < a.length ∧ 0 < a.getD i 0 ∧ (v.length ≤ i ∨ v.getD i 0 < a.getD i 0)) ↔ yq v (i : Int) < yq a (i : Int) := by
  unfold yq
  rw [Int.toNat_natCast]
  by_cases h1 : i < a.length <;> by_cases h2 : i < v.length
  · rw [if_neg (by omega), if_neg (by omega)]; omega
  · rw [if_pos (by omega), if_neg (by omega)]; omega
  · rw [if_neg (by omega), if_pos (by omega)]; omega
  · rw [if_pos (by omega), if_pos (by omega)]; omega
theorem Ub {a v : List Int} : zt a v a.length = yB v a (max a.length v.length) := by
  rw [Bool.eq_iff_iff]
  unfold zt yB
  simp only [List.any_eq_true, List.mem_range, Bool.and_eq_true, Bool.or_eq_true, decide_eq_true_eq]
  constructor
  · rintro ⟨i, h1, h2, h3⟩
    exact ⟨i, by omega, WG.1 ⟨h1, h2, by omega⟩⟩
  · rintro ⟨i, _, h2⟩
    obtain ⟨h3, h4, h5⟩ := WG.2 h2
    exact ⟨i, h3, h4, by omega⟩
theorem ask_more {n : Nat} {L : List Ev} {m : Msg} : Ze n L m = (decide (m.kind = 1) && zt m.vec (zc n L) m.vec.length) := by
  unfold Ze zK
  rw [Ub]
  congr 1
  unfold fl
  cases yB m.vec (zc n L) (max m.vec.length (zc n L).length) <;> cases yB (zc n L) m.vec (max m.vec.length (zc n L).length) <;> decide
theorem WT {G : Nat → Prop} {W w : World} {Rs : List HP} {b : Nat} {n : Nat} {L : List Ev} (hb : (RefS b n L).p W G) {self : Int} (hself : InR self) {m : Msg} {dm0 : Value} (hdm0 : RdS W G dm0 m.vec) {dm1 : Value} (hdm1 : RdS W G dm1 m.evs) (om : m.Ok) {chunk : Int} (hchunk : InR chunk) (hS0 : Sep G W Rs w) (hG : Good n L) (hn : n ≤ 1000) : Ret Try.prog 43 [.pointer (some ⟨b, 0, none⟩), .int .i64 (self), .agg (m.cells dm0 dm1).toArray, .int .i64 (chunk)] w (fun r w' => ∃ (v : Value), r = (v : Value) ∧ Sep G W ((RowE (α := Msg) own 57 v (xi n L self m chunk)) :: Rs) w') := by
 have hdm0s : _ * 8 ≤ _ := hdm0.small
 have hdm1s : _ * 96 ≤ _ := hdm1.small
 refine zq (args := [.pointer (some ⟨b, 0, none⟩), .int .i64 (self), .agg (m.cells dm0 dm1).toArray, .int .i64 (chunk)]) Try.func43 rfl rfl ?_
 obtain ⟨vl1, hb2, hl3⟩ := RefS.sh hb
 have hsm4 : L.length * 96 ≤ 140737488355328 := hl3.small
 refine zd ?_
 refine za (by kernel_rfl) (fun _ => ?_)
 refine st (yp (v := .agg (m.cells dm0 dm1).toArray) rfl ?_)
 intro w7 b6 hn5
 have hS8 := hS0.new hn5
 refine st (zf (v := (.slice none 0 0)) rfl ?_)
 refine zg ?_
 refine zd ?_
 refine zd ?_
 refine zF (by kernel_rfl) ?_
 refine st (yF rfl ?_)
 refine st (zh (v := .int .i64 (m.kind)) Try.isAgg3 rfl (zi (hS8.blk (i := 0) rfl) rfl) ?_)
 refine st (yu (k := .i64) (a := m.kind) (b := 1) rfl rfl ?_)
 refine st (zb (v := .bool (!decide (m.kind = 1))) rfl ?_)
 refine stc (V := .pointer (some ⟨b6, 0, none⟩)) rfl rfl (fun hb9 => ?_) ?_
 ·have hl10 := hb9
  have hl10 := yc hl10
  exact yF rfl ⟨rfl, rfl⟩
 refine stc (V := .int .i64 (m.kind)) rfl rfl (fun hb11 => ?_) ?_
 ·have hl12 := hb11
  have hl12 := yc hl12
  exact zh (v := .int .i64 (m.kind)) Try.isAgg3 (show _ = (.pointer (some ⟨b6, 0, none⟩) : Value) from (if_pos hb11)) (zi (hS8.blk (i := 0) rfl) rfl) ⟨rfl, rfl⟩
 refine stc (V := .bool (!decide (m.kind = 2))) rfl rfl (fun hb13 => ?_) ?_
 ·have hl14 := hb13
  have hl14 := yc hl14
  exact yu (k := .i64) (a := m.kind) (b := 2) (show _ = (.int .i64 (m.kind) : Value) from (if_pos hb13)) rfl ⟨rfl, rfl⟩
 refine st (zI (b := !decide (m.kind = 1)) (b' := !decide (m.kind = 2)) rfl (fun hbp => (show _ = (.bool (!decide (m.kind = 2)) : Value) from (if_pos hbp))) ?_)
 refine zg ?_
 cases hc15 : (!decide (m.kind = 1)) && (!decide (m.kind = 2))
 ·skip
  have hc15r := hc15
  try simp only [zr] at hc15
  refine zk rfl ?_
  refine zp ?_
  refine zd ?_
  refine za (by kernel_rfl) (fun _ => ?_)
  refine st (zf (v := (.slice none 0 0)) rfl ?_)
  refine zg ?_
  refine zd ?_
  refine za (by kernel_rfl) (fun _ => ?_)
  refine st (zb (v := .pointer (some ⟨b, 0, none⟩)) rfl ?_)
  refine st (yh rfl ?_)
  refine st (zh (v := dm0) Try.isAgg34 rfl (zi (hS8.blk (i := 0) rfl) rfl) ?_)
  refine st (zb (v := .int .i64 (chunk)) rfl ?_)
  refine st (Zc (k := .i64) (a := chunk) (b := 32) rfl rfl ?_)
  refine st (xE (k := .i64) (a := 1) (b := min chunk 32) rfl rfl ?_)
  refine st (zj (f := 71) (vals := [.pointer (some ⟨b, 0, none⟩), dm0, .int .i64 (max 1 (min chunk 32))]) (cap := []) rfl rfl Try.call71 (Wd (l := m.vec) (vl := dm0) (most := max 1 (min chunk 32)) hb hdm0 (by have h1 : InR 1 := (by decide); have h2 : InR (min chunk 32) := (by have h1 : InR chunk := hchunk; have h2 : InR 32 := (by decide); omega); omega) hS8 (hG)) ?_)
  rintro v16 w17 ⟨_, rfl, hS18⟩
  have hr19 := hS18.row (i := 0) rfl
  have hr19s : _ * 96 ≤ _ := hr19.2
  refine st (zf (v := v16) rfl ?_)
  refine zg ?_
  refine zd ?_
  refine zd ?_
  refine za (by kernel_rfl) (fun _ => ?_)
  refine st (zb (v := v16) rfl ?_)
  refine st (zB (n := (zA L m.vec (max 1 (min chunk 32))).length) Try.underlying22 rfl hr19.1 ?_)
  refine st (yy (k := .i64) (a := (((zA L m.vec (max 1 (min chunk 32))).length : Nat) : Int)) (b := 0) rfl rfl ?_)
  refine zg ?_
  cases hc20 : decide (0 < (((zA L m.vec (max 1 (min chunk 32))).length : Nat) : Int))
  ·skip
   have hc20r := hc20
   have hc20 := of_decide_eq_false hc20
   refine zk rfl ?_
   refine zp ?_
   refine zd ?_
   refine za (by kernel_rfl) (fun _ => ?_)
   refine st (zb (v := .pointer (some ⟨b, 0, none⟩)) rfl ?_)
   refine st (zj (f := 51) (vals := [.pointer (some ⟨b, 0, none⟩)]) (cap := []) rfl rfl Try.call51 (xy  hb hS18 (hG) (hn)) ?_)
   rintro v21 w22 ⟨_, rfl, hS23⟩
   have hr24 := hS23.row (i := 0) rfl
   have hr24s : _ * 8 ≤ _ := hr24.2
   refine st (zf (v := v21) rfl ?_)
   refine zg ?_
   refine zd ?_
   refine za (by kernel_rfl) (fun _ => ?_)
   refine st (zf (v := .bool false) rfl ?_)
   refine zg ?_
   refine zd ?_
   refine zd ?_
   refine za (by kernel_rfl) (fun _ => ?_)
   refine st (zf (v := .int .i64 (0)) rfl ?_)
   refine zg ?_
   refine zx ?_
   refine yb (fun mq σ wq => ∃ (k : Nat) (ρ : Env), mq = m.vec.length - k ∧ σ = ye ρ [(0, .pointer (some ⟨b, 0, none⟩)), (1, .int .i64 (self)), (6, .pointer (some ⟨b6, 0, none⟩)), (9, (.slice none 0 0)), (11, v21), (12, .bool ((zt m.vec (zc n L) k))), (13, .int .i64 ((k : Nat) : Int))] ∧ (k ≤ m.vec.length) ∧ Sep G W ((RowE (α := Int) own 3 v21 (zc n L)) :: (RowE (α := Ev) own 36 v16 (zA L m.vec (max 1 (min chunk 32)))) :: (Blk b6 (m.cells dm0 dm1).toArray 57) :: Rs) wq) ⟨0, _, rfl, zn ⟨rfl, rfl, rfl, rfl, rfl, rfl, rfl, trivial⟩, Nat.zero_le _, hS23⟩ ?_
   rintro m26 σ27 w25 ⟨k, ρl1, rfl, rfl, hk, hS28⟩
   refine zd ?_
   refine zd ?_
   refine za (by kernel_rfl) (fun _ => ?_)
   refine st (zb (v := .int .i64 ((k : Nat) : Int)) rfl ?_)
   refine st (yh rfl ?_)
   refine st (zh (v := dm0) Try.isAgg34 rfl (zi (hS28.blk (i := 2) rfl) rfl) ?_)
   refine st (zB (n := m.vec.length) Try.underlying34 rfl hdm0.sl ?_)
   refine st (zJ (k := .i64) (a := ((k : Nat) : Int)) (b := ((m.vec.length : Nat) : Int)) rfl rfl ?_)
   refine zg ?_
   cases hc29 : decide (((k : Nat) : Int) < ((m.vec.length : Nat) : Int))
   ·skip
    have hc29r := hc29
    have hc29 := of_decide_eq_false hc29
    refine zk rfl ?_
    refine ya ?_
    refine zQ ?_
    refine zd ?_
    refine zd ?_
    obtain rfl : k = m.vec.length := by omega
    refine zF (by kernel_rfl) ?_
    refine st (yF rfl ?_)
    refine st (zh (v := .int .i64 (m.kind)) Try.isAgg3 rfl (zi (hS28.blk (i := 2) rfl) rfl) ?_)
    refine st (zO (k := .i64) (a := m.kind) (b := 1) rfl rfl ?_)
    refine st (zb (v := .bool (decide (m.kind = 1))) rfl ?_)
    refine stc (V := .bool ((zt m.vec (zc n L) m.vec.length))) rfl rfl (fun hb30 => ?_) ?_
    ·have hl31 := hb30
     have hl31 := of_decide_eq_true hl31
     exact zb (v := .bool ((zt m.vec (zc n L) m.vec.length))) rfl ⟨rfl, rfl⟩
    refine st (zI (b := decide (m.kind = 1)) (b' := (zt m.vec (zc n L) m.vec.length)) rfl (fun hbp => (show _ = (.bool ((zt m.vec (zc n L) m.vec.length)) : Value) from (if_pos hbp))) ?_)
    refine zg ?_
    cases hc32 : (decide (m.kind = 1)) && (zt m.vec (zc n L) m.vec.length)
    ·skip
     have hc32r := hc32
     try simp only [zr] at hc32
     refine zk rfl ?_
     refine zp ?_
     refine zd ?_
     refine zd ?_
     refine za (by kernel_rfl) (fun _ => ?_)
     refine st (zb (v := (.slice none 0 0)) rfl ?_)
     refine st (zB (n := 0) Try.underlying58 rfl (⟨none, 0, rfl, Nat.le_refl _, fun h => absurd h (Nat.lt_irrefl 0)⟩ : IsSl _ 0) ?_)
     refine st (zO (k := .i64) (a := ((0 : Nat) : Int)) (b := 0) rfl rfl ?_)
     have hkn33 : (decide (((0 : Nat) : Int) = 0)) = true := by simp
     rw [hkn33]
     refine zg ?_
     refine zm rfl ?_
     refine za (by kernel_rfl) (fun _ => ?_)
     refine st (zb (v := (.slice none 0 0)) rfl ?_)
     refine st (zb (v := .pointer (some ⟨b, 0, none⟩)) rfl ?_)
     refine st (zb (v := .int .i64 (self)) rfl ?_)
     refine st (yI rfl ?_)
     refine st (zh (v := .int .i64 (m.frm)) Try.isAgg3 rfl (zi (hS28.blk (i := 2) rfl) rfl) ?_)
     refine st (zj (f := 49) (vals := [.pointer (some ⟨b, 0, none⟩), .int .i64 (self), .int .i64 (m.frm)]) (cap := []) rfl rfl Try.call49 (ZC (fr := self) (tt := m.frm) hb hself om.frm hS28 (hG) (hn)) ?_)
     rintro _ w36 ⟨v34, rfl, hmo35, hS37⟩
     have hr38 := hS37.row (i := 0) rfl
     have hr38s : _ * 8 ≤ _ := hr38.2
     refine st (zz (k := 5) (parts' := [(0, .agg ((⟨4, self, m.frm, zc n L, []⟩ : Msg).cells v34 (.slice none 0 0)).toArray)]) (c := ((⟨4, self, m.frm, zc n L, []⟩ : Msg).cells v34 (.slice none 0 0)).toArray) Try.underlying58 Try.sizeOf57 Try.zeroValue57 (by decide) rfl (by kernel_rfl) ?_)
     intro w41 b40 hn39
     have hS42 := hS37.new hn39
     have hS46 : Sep G W ((RowE (α := Msg) own 57 (.slice none 0 0) ([] : List Msg)) :: (Blk b40 ((⟨4, self, m.frm, zc n L, []⟩ : Msg).cells v34 (.slice none 0 0)).toArray 57) :: (RowE (α := Int) own 3 v34 (zc n L)) :: (RowE (α := Int) own 3 v21 (zc n L)) :: (RowE (α := Ev) own 36 v16 (zA L m.vec (max 1 (min chunk 32)))) :: (Blk b6 (m.cells dm0 dm1).toArray 57) :: Rs) w41 := hS42.rowNil own 57
     have hr47 := hS46.row (i := 0) rfl
     have hr47s : _ * 72 ≤ _ := hr47.2
     have hbk48 := hS46.blk (i := 1) rfl
     have hS49 : Sep G W ((RowE (α := Msg) own 57 (.slice none 0 0) ([] : List Msg)) :: (RowE (α := Int) own 3 v34 (zc n L)) :: (RowE (α := Int) own 3 v21 (zc n L)) :: (RowE (α := Ev) own 36 v16 (zA L m.vec (max 1 (min chunk 32)))) :: (Blk b6 (m.cells dm0 dm1).toArray 57) :: Rs) w41 := hS46.sel 6 [0, 2, 3, 4, 5] (Nat.le_add_left _ _) rfl rfl
     refine st (zN (src := own) (bytes := 72) (x1 := (⟨4, self, m.frm, zc n L, []⟩ : Msg)) hS49 ZM rfl rfl hbk48 (fun _ _ hN => ⟨_, _, rfl, RowE.soft hN, (RdS.nil _ _), hmo35⟩) (by first | omega | (simp only [List.length_append, List.length_cons, List.length_nil, List.length_take, List.length_drop]; omega)) rfl ?_)
     intro v44 w43 hS45
     have hS45 : Sep G W ((RowE (α := Msg) own 57 v44 [(⟨4, self, m.frm, zc n L, []⟩ : Msg)]) :: (RowE (α := Int) own 3 v21 (zc n L)) :: (RowE (α := Ev) own 36 v16 (zA L m.vec (max 1 (min chunk 32)))) :: (Blk b6 (m.cells dm0 dm1).toArray 57) :: Rs) w43 := hS45
     have hr50 := hS45.row (i := 0) rfl
     have hr50s : _ * 72 ≤ _ := hr50.2
     refine st (zf (v := v44) rfl ?_)
     refine zg ?_
     refine zd ?_
     refine za (by kernel_rfl) (fun _ => ?_)
     refine st (zb (v := v44) rfl ?_)
     refine st (zf (v := v44) rfl ?_)
     refine zg ?_
     refine zw ?_
     refine zM Try.results43 (show _ = (v44 : Value) from rfl) ?_
     have hS51 : Sep G W ((RowE (α := Msg) own 57 v44 [(⟨4, self, m.frm, zc n L, []⟩ : Msg)]) :: Rs) w43 := hS45.sel 4 [0] (Nat.le_add_left _ _) rfl rfl
     rw [show [(⟨4, self, m.frm, zc n L, []⟩ : Msg)] = xi n L self m chunk from Uw (n := n) (L := L) (self := self) (c := chunk) hc15r hc20 (ask_more.trans hc32r)] at hS51
     refine ⟨v44, rfl, hS51⟩
    ·skip
     have hc32r := hc32
     try simp only [zr] at hc32
     refine zm rfl ?_
     refine za (by kernel_rfl) (fun _ => ?_)
     refine st (zb (v := (.slice none 0 0)) rfl ?_)
     refine st (zb (v := .int .i64 (self)) rfl ?_)
     refine st (yI rfl ?_)
     refine st (zh (v := .int .i64 (m.frm)) Try.isAgg3 rfl (zi (hS28.blk (i := 2) rfl) rfl) ?_)
     refine st (zb (v := v21) rfl ?_)
     have ok52 : Msg.Ok (⟨2, self, m.frm, zc n L, []⟩ : Msg) := ⟨(show InR (2) from (by decide)), (show InR (self) from hself), (show InR (m.frm) from om.frm)⟩
     refine st (zW (parts' := [(0, .int .i64 (2)), (1, .int .i64 (self)), (2, .int .i64 (m.frm)), (3, v21)]) (v := .agg ((⟨2, self, m.frm, zc n L, []⟩ : Msg).cells v21 (.slice none 0 0)).toArray) rfl (by obtain ⟨_, _, hv53, _⟩ := hr24.1; rw [show v21 = Value.slice _ _ _ from hv53]; simp [Instr.build, Instr.fill, go_sem, Msg.cells]) ?_)
     refine st (zz (k := 5) (parts' := [(0, .agg ((⟨2, self, m.frm, zc n L, []⟩ : Msg).cells v21 (.slice none 0 0)).toArray)]) (c := ((⟨2, self, m.frm, zc n L, []⟩ : Msg).cells v21 (.slice none 0 0)).toArray) Try.underlying58 Try.sizeOf57 Try.zeroValue57 (by decide) rfl (by kernel_rfl) ?_)
     intro w56 b55 hn54
     have hS57 := hS28.new hn54
     have hS61 : Sep G W ((RowE (α := Msg) own 57 (.slice none 0 0) ([] : List Msg)) :: (Blk b55 ((⟨2, self, m.frm, zc n L, []⟩ : Msg).cells v21 (.slice none 0 0)).toArray 57) :: (RowE (α := Int) own 3 v21 (zc n L)) :: (RowE (α := Ev) own 36 v16 (zA L m.vec (max 1 (min chunk 32)))) :: (Blk b6 (m.cells dm0 dm1).toArray 57) :: Rs) w56 := hS57.rowNil own 57
     have hr62 := hS61.row (i := 0) rfl
     have hr62s : _ * 72 ≤ _ := hr62.2
     have hbk63 := hS61.blk (i := 1) rfl
     have hS64 : Sep G W ((RowE (α := Msg) own 57 (.slice none 0 0) ([] : List Msg)) :: (RowE (α := Int) own 3 v21 (zc n L)) :: (RowE (α := Ev) own 36 v16 (zA L m.vec (max 1 (min chunk 32)))) :: (Blk b6 (m.cells dm0 dm1).toArray 57) :: Rs) w56 := hS61.sel 5 [0, 2, 3, 4] (Nat.le_add_left _ _) rfl rfl
     refine st (zN (src := own) (bytes := 72) (x1 := (⟨2, self, m.frm, zc n L, []⟩ : Msg)) hS64 ZM rfl rfl hbk63 (fun _ _ hN => ⟨_, _, rfl, RowE.soft hN, (RdS.nil _ _), ok52⟩) (by first | omega | (simp only [List.length_append, List.length_cons, List.length_nil, List.length_take, List.length_drop]; omega)) rfl ?_)
     intro v59 w58 hS60
     have hS60 : Sep G W ((RowE (α := Msg) own 57 v59 [(⟨2, self, m.frm, zc n L, []⟩ : Msg)]) :: (RowE (α := Ev) own 36 v16 (zA L m.vec (max 1 (min chunk 32)))) :: (Blk b6 (m.cells dm0 dm1).toArray 57) :: Rs) w58 := hS60
     have hr65 := hS60.row (i := 0) rfl
     have hr65s : _ * 72 ≤ _ := hr65.2
     refine st (zf (v := v59) rfl ?_)
     refine zg ?_
     refine zd ?_
     refine zd ?_
     refine za (by kernel_rfl) (fun _ => ?_)
     refine st (zb (v := v59) rfl ?_)
     refine st (zB (n := [(⟨2, self, m.frm, zc n L, []⟩ : Msg)].length) Try.underlying58 rfl hr65.1 ?_)
     refine st (zO (k := .i64) (a := (([(⟨2, self, m.frm, zc n L, []⟩ : Msg)].length : Nat) : Int)) (b := 0) rfl rfl ?_)
     have hkn66 : (decide ((([(⟨2, self, m.frm, zc n L, []⟩ : Msg)].length : Nat) : Int) = 0)) = false := by simp
     rw [hkn66]
     refine zg ?_
     refine zk rfl ?_
     refine zp ?_
     refine zd ?_
     refine za (by kernel_rfl) (fun _ => ?_)
     refine st (zb (v := v59) rfl ?_)
     refine st (zf (v := v59) rfl ?_)
     refine zg ?_
     refine zw ?_
     refine zM Try.results43 (show _ = (v59 : Value) from rfl) ?_
     have hS67 : Sep G W ((RowE (α := Msg) own 57 v59 [(⟨2, self, m.frm, zc n L, []⟩ : Msg)]) :: Rs) w58 := hS60.sel 3 [0] (Nat.le_add_left _ _) rfl rfl
     rw [show [(⟨2, self, m.frm, zc n L, []⟩ : Msg)] = xi n L self m chunk from Ud (n := n) (L := L) (self := self) (c := chunk) hc15r hc20 (ask_more.trans hc32r)] at hS67
     refine ⟨v59, rfl, hS67⟩
   ·skip
    have hc29r := hc29
    have hc29 := of_decide_eq_true hc29
    refine zm rfl ?_
    refine zp ?_
    refine zd ?_
    refine zx ?_
    refine zS (WF [fun vals wq => Sep G W ((RowE (α := Int) own 3 v21 (zc n L)) :: (RowE (α := Ev) own 36 v16 (zA L m.vec (max 1 (min chunk 32)))) :: (Blk b6 (m.cells dm0 dm1).toArray 57) :: Rs) wq]) (AF [Vl 0 (.bool ((zt m.vec (zc n L) k))), Vl 1 (.bool ((zt m.vec (zc n L) k))), Vl 2 (if (zt m.vec (zc n L) k) = false then .pointer (some ⟨b6, 3, none⟩) else undef), Vl 3 (if (zt m.vec (zc n L) k) = false then dm0 else undef), Vl 4 (if (zt m.vec (zc n L) k) = false then .int .i64 ((k : Nat) : Int) else undef), Vl 5 (if (zt m.vec (zc n L) k) = false then .pointer (some ⟨sb dm0, so dm0 + k * 1, none⟩) else undef), Vl 6 (if (zt m.vec (zc n L) k) = false then .int .i64 ((m.vec.getD k 0)) else undef), Vl 7 (if (zt m.vec (zc n L) k) = false then .bool (decide (0 < (m.vec.getD k 0))) else undef), Vl 8 (if (zt m.vec (zc n L) k) = false then .bool (decide (0 < (m.vec.getD k 0))) else undef), Vl 9 (if ((zt m.vec (zc n L) k) = false) ∧ (decide (0 < (m.vec.getD k 0))) = true then .int .i64 ((k : Nat) : Int) else undef), Vl 10 (if ((zt m.vec (zc n L) k) = false) ∧ (decide (0 < (m.vec.getD k 0))) = true then v21 else undef), Vl 11 (if ((zt m.vec (zc n L) k) = false) ∧ (decide (0 < (m.vec.getD k 0))) = true then .int .i64 (((zc n L).length : Nat) : Int) else undef), Vl 12 (if ((zt m.vec (zc n L) k) = false) ∧ (decide (0 < (m.vec.getD k 0))) = true then .bool (decide ((((zc n L).length : Nat) : Int) ≤ ((k : Nat) : Int))) else undef), Vl 13 (if ((zt m.vec (zc n L) k) = false) ∧ (decide (0 < (m.vec.getD k 0))) = true then .bool (decide ((((zc n L).length : Nat) : Int) ≤ ((k : Nat) : Int))) else undef), Vl 14 (if (((zt m.vec (zc n L) k) = false) ∧ (decide (0 < (m.vec.getD k 0))) = true) ∧ (decide ((((zc n L).length : Nat) : Int) ≤ ((k : Nat) : Int))) = false then .pointer (some ⟨b6, 3, none⟩) else undef), Vl 15 (if (((zt m.vec (zc n L) k) = false) ∧ (decide (0 < (m.vec.getD k 0))) = true) ∧ (decide ((((zc n L).length : Nat) : Int) ≤ ((k : Nat) : Int))) = false then dm0 else undef), Vl 16 (if (((zt m.vec (zc n L) k) = false) ∧ (decide (0 < (m.vec.getD k 0))) = true) ∧ (decide ((((zc n L).length : Nat) : Int) ≤ ((k : Nat) : Int))) = false then .int .i64 ((k : Nat) : Int) else undef), Vl 17 (if (((zt m.vec (zc n L) k) = false) ∧ (decide (0 < (m.vec.getD k 0))) = true) ∧ (decide ((((zc n L).length : Nat) : Int) ≤ ((k : Nat) : Int))) = false then .pointer (some ⟨sb dm0, so dm0 + k * 1, none⟩) else undef), Vl 18 (if (((zt m.vec (zc n L) k) = false) ∧ (decide (0 < (m.vec.getD k 0))) = true) ∧ (decide ((((zc n L).length : Nat) : Int) ≤ ((k : Nat) : Int))) = false then .int .i64 ((m.vec.getD k 0)) else undef), Vl 19 (if (((zt m.vec (zc n L) k) = false) ∧ (decide (0 < (m.vec.getD k 0))) = true) ∧ (decide ((((zc n L).length : Nat) : Int) ≤ ((k : Nat) : Int))) = false then v21 else undef), Vl 20 (if (((zt m.vec (zc n L) k) = false) ∧ (decide (0 < (m.vec.getD k 0))) = true) ∧ (decide ((((zc n L).length : Nat) : Int) ≤ ((k : Nat) : Int))) = false then .int .i64 ((k : Nat) : Int) else undef), Vl 21 (if (((zt m.vec (zc n L) k) = false) ∧ (decide (0 < (m.vec.getD k 0))) = true) ∧ (decide ((((zc n L).length : Nat) : Int) ≤ ((k : Nat) : Int))) = false then .pointer (some ⟨sb v21, so v21 + k * 1, none⟩) else undef), Vl 22 (if (((zt m.vec (zc n L) k) = false) ∧ (decide (0 < (m.vec.getD k 0))) = true) ∧ (decide ((((zc n L).length : Nat) : Int) ≤ ((k : Nat) : Int))) = false then .int .i64 (((zc n L).getD k 0)) else undef), Vl 23 (if (((zt m.vec (zc n L) k) = false) ∧ (decide (0 < (m.vec.getD k 0))) = true) ∧ (decide ((((zc n L).length : Nat) : Int) ≤ ((k : Nat) : Int))) = false then .bool (decide (((zc n L).getD k 0) < (m.vec.getD k 0))) else undef), Vl 24 (if ((zt m.vec (zc n L) k) = false) ∧ (decide (0 < (m.vec.getD k 0))) = true then .bool ((decide ((((zc n L).length : Nat) : Int) ≤ ((k : Nat) : Int))) || (decide (((zc n L).getD k 0) < (m.vec.getD k 0)))) else undef), Vl 25 (if (zt m.vec (zc n L) k) = false then .bool ((decide (0 < (m.vec.getD k 0))) && ((decide ((((zc n L).length : Nat) : Int) ≤ ((k : Nat) : Int))) || (decide (((zc n L).getD k 0) < (m.vec.getD k 0))))) else undef), Vl 26 (.bool ((zt m.vec (zc n L) k) || ((decide (0 < (m.vec.getD k 0))) && ((decide ((((zc n L).length : Nat) : Int) ≤ ((k : Nat) : Int))) || (decide (((zc n L).getD k 0) < (m.vec.getD k 0))))))), Vl 27 (.bool ((zt m.vec (zc n L) k) || ((decide (0 < (m.vec.getD k 0))) && ((decide ((((zc n L).length : Nat) : Int) ≤ ((k : Nat) : Int))) || (decide (((zc n L).getD k 0) < (m.vec.getD k 0)))))))]) [[], [0], [0, 1], [0, 1, 2], [0, 1], [0, 1, 2, 3, 4], [0, 1, 2, 3, 4, 5], [0, 1, 2, 3, 4, 5, 6], [0, 1, 2, 3, 4, 5, 6, 7], [0, 1, 2, 3, 4, 5, 6, 7, 8], [0, 1, 2, 3, 4, 5, 6, 7, 8], [0, 1, 2, 3, 4, 5, 6, 7, 8, 10], [0, 1, 2, 3, 4, 5, 6, 7, 8, 9, 10, 11], [0, 1, 2, 3, 4, 5, 6, 7, 8, 9, 10, 11, 12], [0, 1, 2, 3, 4, 5, 6, 7, 8, 9, 10, 11, 12, 13], [0, 1, 2, 3, 4, 5, 6, 7, 8, 9, 10, 11, 12, 13, 14], [0, 1, 2, 3, 4, 5, 6, 7, 8, 9, 10, 11, 12, 13], [0, 1, 2, 3, 4, 5, 6, 7, 8, 9, 10, 11, 12, 13, 14, 15, 16], [0, 1, 2, 3, 4, 5, 6, 7, 8, 9, 10, 11, 12, 13, 14, 15, 16, 17], [0, 1, 2, 3, 4, 5, 6, 7, 8, 9, 10, 11, 12, 13], [0, 1, 2, 3, 4, 5, 6, 7, 8, 9, 10, 11, 12, 13], [0, 1, 2, 3, 4, 5, 6, 7, 8, 9, 10, 11, 12, 13, 19, 20], [0, 1, 2, 3, 4, 5, 6, 7, 8, 9, 10, 11, 12, 13, 19, 20, 21], [0, 1, 2, 3, 4, 5, 6, 7, 8, 9, 10, 11, 12, 13, 14, 15, 16, 17, 18, 19, 20, 21, 22], [0, 1, 2, 3, 4, 5, 6, 7, 8, 9, 10, 11, 12, 13, 14, 15, 16, 17, 18, 19, 20, 21, 22, 23], [0, 1, 2, 3, 4, 5, 6, 7, 8, 9, 10, 11, 12, 13, 14, 15, 16, 17, 18, 19, 20, 21, 22, 23, 24], [0, 1, 2, 3, 4, 5, 6, 7, 8, 9, 10, 11, 12, 13, 14, 15, 16, 17, 18, 19, 20, 21, 22, 23, 24, 25], [0, 1, 2, 3, 4, 5, 6, 7, 8, 9, 10, 11, 12, 13, 14, 15, 16, 17, 18, 19, 20, 21, 22, 23, 24, 25, 26]] [] [(0, 0), (0, 0), (0, 0), (0, 0), (0, 0), (0, 0), (0, 0), (0, 0), (0, 0), (0, 0), (0, 0), (0, 0), (0, 0), (0, 0), (0, 0), (0, 0), (0, 0), (0, 0), (0, 0), (0, 0), (0, 0), (0, 0), (0, 0), (0, 0), (0, 0), (0, 0), (0, 0), (0, 0)] (by kernel_rfl) (by kernel_rfl) (by kernel_rfl) rfl (by kernel_rfl) (by kernel_rfl) (fun _ h1 h2 h3 h4 _ => hS28.same h1 h2 h3 h4) ?_ (yk ⟨dA, dA, dA, dA, dA, dA, dA, dA, dA, dA, dA, dA, dA, dA, dA, dA, dA, dA, dA, dA, dA, dA, dA, dA, dA, dA, dA, dA, trivial⟩) ⟨?_, ?_, ?_, ?_, ?_, ?_, ?_, ?_, ?_, ?_, ?_, ?_, ?_, ?_, ?_, ?_, ?_, ?_, ?_, ?_, ?_, ?_, ?_, ?_, ?_, ?_, ?_, ?_, trivial⟩ ?_
    ·intro k vals vals' w hv h
     match k, h with
     | 0, h => exact h
     | _ + 1, _ => trivial
    ·intro k384 vals w385 h388 h389 hW387 hA386
     refine obl rfl ?_
     exact zb (v := .bool ((zt m.vec (zc n L) k))) rfl (fun vals' hv _ => ⟨rfl, hv⟩)
    ·intro k390 vals w391 h394 h395 hW393 hA392
     have e396 := hA392 0 (by decide)
     refine obl rfl ?_
     exact zb (v := .bool ((zt m.vec (zc n L) k))) e396 (fun vals' hv _ => ⟨rfl, hv⟩)
    ·intro k397 vals w398 h401 h402 hW400 hA399
     have e403 := hA399 1 (by decide)
     refine ym rfl rfl e403 (fun hb404 => ?_) (fun hb404 => fun vals' hv _ => ⟨trivial, hv.trans (if_neg hb404).symm⟩)
     have hl405 := hb404
     exact yh rfl (fun vals' hv _ => ⟨rfl, hv.trans (if_pos hb404).symm⟩)
    ·intro k406 vals w407 h410 h411 hW409 hA408
     obtain rfl : k406 = 0 := Nat.le_antisymm h411 h410
     have hS412 : Sep _ _ _ _ := hW409
     have e413 := hA408 1 (by decide)
     have e414 : vals 2 = (if (zt m.vec (zc n L) k) = false then (.pointer (some ⟨b6, 3, none⟩) : Value) else undef) := hA408 2 (by decide)
     refine ym rfl rfl e413 (fun hb415 => ?_) (fun hb415 => fun vals' hv _ => ⟨trivial, hv.trans (if_neg hb415).symm⟩)
     have hl416 := hb415
     exact zh (v := dm0) Try.isAgg34 (show _ = (.pointer (some ⟨b6, 3, none⟩) : Value) from (Eq.trans e414 (if_pos hb415))) (zi (hS412.blk (i := 2) rfl) rfl) (fun vals' hv _ => ⟨rfl, hv.trans (if_pos hb415).symm⟩)
    ·intro k417 vals w418 h421 h422 hW420 hA419
     have e423 := hA419 1 (by decide)
     refine ym rfl rfl e423 (fun hb424 => ?_) (fun hb424 => fun vals' hv _ => ⟨trivial, hv.trans (if_neg hb424).symm⟩)
     have hl425 := hb424
     exact zb (v := .int .i64 ((k : Nat) : Int)) rfl (fun vals' hv _ => ⟨rfl, hv.trans (if_pos hb424).symm⟩)
    ·intro k426 vals w427 h430 h431 hW429 hA428
     obtain rfl : k426 = 0 := Nat.le_antisymm h431 h430
     have hS432 : Sep _ _ _ _ := hW429
     have e433 := hA428 1 (by decide)
     have e434 : vals 3 = (if (zt m.vec (zc n L) k) = false then (dm0 : Value) else undef) := hA428 3 (by decide)
     have e435 : vals 4 = (if (zt m.vec (zc n L) k) = false then (.int .i64 ((k : Nat) : Int) : Value) else undef) := hA428 4 (by decide)
     refine ym rfl rfl e433 (fun hb436 => ?_) (fun hb436 => fun vals' hv _ => ⟨trivial, hv.trans (if_neg hb436).symm⟩)
     have hl437 := hb436
     have hi438 : k < m.vec.length := (by first | omega | (simp only [zu]; omega))
     exact zl (k := 1) (i := k) Try.underlying34 Try.sizeOf3 (show _ = (dm0 : Value) from (Eq.trans e434 (if_pos hb436))) hdm0.sl (show _ = (.int .i64 ((k : Nat) : Int) : Value) from (Eq.trans e435 (if_pos hb436))) hi438 (fun vals' hv _ => ⟨rfl, hv.trans (if_pos hb436).symm⟩)
    ·intro k439 vals w440 h443 h444 hW442 hA441
     obtain rfl : k439 = 0 := Nat.le_antisymm h444 h443
     have hS445 : Sep _ _ _ _ := hW442
     have e446 := hA441 1 (by decide)
     have e447 : vals 5 = (if (zt m.vec (zc n L) k) = false then (.pointer (some ⟨sb dm0, so dm0 + k * 1, none⟩) : Value) else undef) := hA441 5 (by decide)
     refine ym rfl rfl e446 (fun hb448 => ?_) (fun hb448 => fun vals' hv _ => ⟨trivial, hv.trans (if_neg hb448).symm⟩)
     have hl449 := hb448
     have hi451 : k < m.vec.length := (by first | omega | (simp only [zu]; omega))
     obtain ⟨hce450, hxe450⟩ := hdm0.int hi451
     rw [← zo 0 hi451] at hce450 hxe450
     have hcw452 := hS445.cells hce450 (hdm0.foot (ne_of_lt hi451))
     exact zh (v := .int .i64 ((m.vec.getD k 0))) Try.isAgg3 (show _ = (.pointer (some ⟨sb dm0, so dm0 + k * 1, none⟩) : Value) from (Eq.trans e447 (if_pos hb448))) (hcw452.get (j := 0) rfl) (fun vals' hv _ => ⟨rfl, hv.trans (if_pos hb448).symm⟩)
    ·intro k453 vals w454 h457 h458 hW456 hA455
     obtain rfl : k453 = 0 := Nat.le_antisymm h458 h457
     have hS459 : Sep _ _ _ _ := hW456
     have e460 := hA455 1 (by decide)
     have e461 : vals 6 = (if (zt m.vec (zc n L) k) = false then (.int .i64 ((m.vec.getD k 0)) : Value) else undef) := hA455 6 (by decide)
     refine ym rfl rfl e460 (fun hb462 => ?_) (fun hb462 => fun vals' hv _ => ⟨trivial, hv.trans (if_neg hb462).symm⟩)
     have hl463 := hb462
     exact yy (k := .i64) (a := (m.vec.getD k 0)) (b := 0) (show _ = (.int .i64 ((m.vec.getD k 0)) : Value) from (Eq.trans e461 (if_pos hb462))) rfl (fun vals' hv _ => ⟨rfl, hv.trans (if_pos hb462).symm⟩)
    ·intro k464 vals w465 h468 h469 hW467 hA466
     have e470 := hA466 1 (by decide)
     have e471 : vals 7 = (if (zt m.vec (zc n L) k) = false then (.bool (decide (0 < (m.vec.getD k 0))) : Value) else undef) := hA466 7 (by decide)
     refine ym rfl rfl e470 (fun hb472 => ?_) (fun hb472 => fun vals' hv _ => ⟨trivial, hv.trans (if_neg hb472).symm⟩)
     have hl473 := hb472
     exact zb (v := .bool (decide (0 < (m.vec.getD k 0)))) (show _ = (.bool (decide (0 < (m.vec.getD k 0))) : Value) from (Eq.trans e471 (if_pos hb472))) (fun vals' hv _ => ⟨rfl, hv.trans (if_pos hb472).symm⟩)
    ·intro k474 vals w475 h478 h479 hW477 hA476
     have e480 : vals 8 = (if (zt m.vec (zc n L) k) = false then (.bool (decide (0 < (m.vec.getD k 0))) : Value) else undef) := hA476 8 (by decide)
     refine yv rfl rfl e480 (fun hb481 => ?_) (fun hb481 => fun vals' hv _ => ⟨trivial, hv.trans (if_neg hb481).symm⟩)
     have hl482 := hb481.1
     have hl483 := hb481.2
     have hl483 := of_decide_eq_true hl483
     exact zb (v := .int .i64 ((k : Nat) : Int)) rfl (fun vals' hv _ => ⟨rfl, hv.trans (if_pos hb481).symm⟩)
    ·intro k484 vals w485 h488 h489 hW487 hA486
     have e490 : vals 8 = (if (zt m.vec (zc n L) k) = false then (.bool (decide (0 < (m.vec.getD k 0))) : Value) else undef) := hA486 8 (by decide)
     refine yv rfl rfl e490 (fun hb491 => ?_) (fun hb491 => fun vals' hv _ => ⟨trivial, hv.trans (if_neg hb491).symm⟩)
     have hl492 := hb491.1
     have hl493 := hb491.2
     have hl493 := of_decide_eq_true hl493
     exact zb (v := v21) rfl (fun vals' hv _ => ⟨rfl, hv.trans (if_pos hb491).symm⟩)
    ·intro k494 vals w495 h498 h499 hW497 hA496
     obtain rfl : k494 = 0 := Nat.le_antisymm h499 h498
     have hS500 : Sep _ _ _ _ := hW497
     have e501 : vals 8 = (if (zt m.vec (zc n L) k) = false then (.bool (decide (0 < (m.vec.getD k 0))) : Value) else undef) := hA496 8 (by decide)
     have e502 : vals 10 = (if ((zt m.vec (zc n L) k) = false) ∧ (decide (0 < (m.vec.getD k 0))) = true then (v21 : Value) else undef) := hA496 10 (by decide)
     refine yv rfl rfl e501 (fun hb503 => ?_) (fun hb503 => fun vals' hv _ => ⟨trivial, hv.trans (if_neg hb503).symm⟩)
     have hl504 := hb503.1
     have hl505 := hb503.2
     have hl505 := of_decide_eq_true hl505
     exact zB (n := (zc n L).length) Try.underlying34 (show _ = (v21 : Value) from (Eq.trans e502 (if_pos ⟨hb503.1, hb503.2⟩))) hr24.1 (fun vals' hv _ => ⟨rfl, hv.trans (if_pos hb503).symm⟩)
    ·intro k506 vals w507 h510 h511 hW509 hA508
     obtain rfl : k506 = 0 := Nat.le_antisymm h511 h510
     have hS512 : Sep _ _ _ _ := hW509
     have e513 : vals 8 = (if (zt m.vec (zc n L) k) = false then (.bool (decide (0 < (m.vec.getD k 0))) : Value) else undef) := hA508 8 (by decide)
     have e514 : vals 9 = (if ((zt m.vec (zc n L) k) = false) ∧ (decide (0 < (m.vec.getD k 0))) = true then (.int .i64 ((k : Nat) : Int) : Value) else undef) := hA508 9 (by decide)
     have e515 : vals 11 = (if ((zt m.vec (zc n L) k) = false) ∧ (decide (0 < (m.vec.getD k 0))) = true then (.int .i64 (((zc n L).length : Nat) : Int) : Value) else undef) := hA508 11 (by decide)
     refine yv rfl rfl e513 (fun hb516 => ?_) (fun hb516 => fun vals' hv _ => ⟨trivial, hv.trans (if_neg hb516).symm⟩)
     have hl517 := hb516.1
     have hl518 := hb516.2
     have hl518 := of_decide_eq_true hl518
     exact xz (k := .i64) (a := ((k : Nat) : Int)) (b := (((zc n L).length : Nat) : Int)) (show _ = (.int .i64 ((k : Nat) : Int) : Value) from (Eq.trans e514 (if_pos ⟨hb516.1, hb516.2⟩))) (show _ = (.int .i64 (((zc n L).length : Nat) : Int) : Value) from (Eq.trans e515 (if_pos ⟨hb516.1, hb516.2⟩))) (fun vals' hv _ => ⟨rfl, hv.trans (if_pos hb516).symm⟩)
    ·intro k519 vals w520 h523 h524 hW522 hA521
     have e525 : vals 8 = (if (zt m.vec (zc n L) k) = false then (.bool (decide (0 < (m.vec.getD k 0))) : Value) else undef) := hA521 8 (by decide)
     have e526 : vals 12 = (if ((zt m.vec (zc n L) k) = false) ∧ (decide (0 < (m.vec.getD k 0))) = true then (.bool (decide ((((zc n L).length : Nat) : Int) ≤ ((k : Nat) : Int))) : Value) else undef) := hA521 12 (by decide)
     refine yv rfl rfl e525 (fun hb527 => ?_) (fun hb527 => fun vals' hv _ => ⟨trivial, hv.trans (if_neg hb527).symm⟩)
     have hl528 := hb527.1
     have hl529 := hb527.2
     have hl529 := of_decide_eq_true hl529
     exact zb (v := .bool (decide ((((zc n L).length : Nat) : Int) ≤ ((k : Nat) : Int)))) (show _ = (.bool (decide ((((zc n L).length : Nat) : Int) ≤ ((k : Nat) : Int))) : Value) from (Eq.trans e526 (if_pos ⟨hb527.1, hb527.2⟩))) (fun vals' hv _ => ⟨rfl, hv.trans (if_pos hb527).symm⟩)
    ·intro k530 vals w531 h534 h535 hW533 hA532
     have e536 : vals 13 = (if ((zt m.vec (zc n L) k) = false) ∧ (decide (0 < (m.vec.getD k 0))) = true then (.bool (decide ((((zc n L).length : Nat) : Int) ≤ ((k : Nat) : Int))) : Value) else undef) := hA532 13 (by decide)
     refine yv rfl rfl e536 (fun hb537 => ?_) (fun hb537 => fun vals' hv _ => ⟨trivial, hv.trans (if_neg hb537).symm⟩)
     have hl538 := hb537.1.1
     have hl539 := hb537.1.2
     have hl539 := of_decide_eq_true hl539
     have hl540 := hb537.2
     have hl540 := of_decide_eq_false hl540
     exact yh rfl (fun vals' hv _ => ⟨rfl, hv.trans (if_pos hb537).symm⟩)
    ·intro k541 vals w542 h545 h546 hW544 hA543
     obtain rfl : k541 = 0 := Nat.le_antisymm h546 h545
     have hS547 : Sep _ _ _ _ := hW544
     have e548 : vals 13 = (if ((zt m.vec (zc n L) k) = false) ∧ (decide (0 < (m.vec.getD k 0))) = true then (.bool (decide ((((zc n L).length : Nat) : Int) ≤ ((k : Nat) : Int))) : Value) else undef) := hA543 13 (by decide)
     have e549 : vals 14 = (if (((zt m.vec (zc n L) k) = false) ∧ (decide (0 < (m.vec.getD k 0))) = true) ∧ (decide ((((zc n L).length : Nat) : Int) ≤ ((k : Nat) : Int))) = false then (.pointer (some ⟨b6, 3, none⟩) : Value) else undef) := hA543 14 (by decide)
     refine yv rfl rfl e548 (fun hb550 => ?_) (fun hb550 => fun vals' hv _ => ⟨trivial, hv.trans (if_neg hb550).symm⟩)
     have hl551 := hb550.1.1
     have hl552 := hb550.1.2
     have hl552 := of_decide_eq_true hl552
     have hl553 := hb550.2
     have hl553 := of_decide_eq_false hl553
     exact zh (v := dm0) Try.isAgg34 (show _ = (.pointer (some ⟨b6, 3, none⟩) : Value) from (Eq.trans e549 (if_pos ⟨⟨hb550.1.1, hb550.1.2⟩, hb550.2⟩))) (zi (hS547.blk (i := 2) rfl) rfl) (fun vals' hv _ => ⟨rfl, hv.trans (if_pos hb550).symm⟩)
    ·intro k554 vals w555 h558 h559 hW557 hA556
     have e560 : vals 13 = (if ((zt m.vec (zc n L) k) = false) ∧ (decide (0 < (m.vec.getD k 0))) = true then (.bool (decide ((((zc n L).length : Nat) : Int) ≤ ((k : Nat) : Int))) : Value) else undef) := hA556 13 (by decide)
     refine yv rfl rfl e560 (fun hb561 => ?_) (fun hb561 => fun vals' hv _ => ⟨trivial, hv.trans (if_neg hb561).symm⟩)
     have hl562 := hb561.1.1
     have hl563 := hb561.1.2
     have hl563 := of_decide_eq_true hl563
     have hl564 := hb561.2
     have hl564 := of_decide_eq_false hl564
     exact zb (v := .int .i64 ((k : Nat) : Int)) rfl (fun vals' hv _ => ⟨rfl, hv.trans (if_pos hb561).symm⟩)
    ·intro k565 vals w566 h569 h570 hW568 hA567
     obtain rfl : k565 = 0 := Nat.le_antisymm h570 h569
     have hS571 : Sep _ _ _ _ := hW568
     have e572 : vals 13 = (if ((zt m.vec (zc n L) k) = false) ∧ (decide (0 < (m.vec.getD k 0))) = true then (.bool (decide ((((zc n L).length : Nat) : Int) ≤ ((k : Nat) : Int))) : Value) else undef) := hA567 13 (by decide)
     have e573 : vals 15 = (if (((zt m.vec (zc n L) k) = false) ∧ (decide (0 < (m.vec.getD k 0))) = true) ∧ (decide ((((zc n L).length : Nat) : Int) ≤ ((k : Nat) : Int))) = false then (dm0 : Value) else undef) := hA567 15 (by decide)
     have e574 : vals 16 = (if (((zt m.vec (zc n L) k) = false) ∧ (decide (0 < (m.vec.getD k 0))) = true) ∧ (decide ((((zc n L).length : Nat) : Int) ≤ ((k : Nat) : Int))) = false then (.int .i64 ((k : Nat) : Int) : Value) else undef) := hA567 16 (by decide)
     refine yv rfl rfl e572 (fun hb575 => ?_) (fun hb575 => fun vals' hv _ => ⟨trivial, hv.trans (if_neg hb575).symm⟩)
     have hl576 := hb575.1.1
     have hl577 := hb575.1.2
     have hl577 := of_decide_eq_true hl577
     have hl578 := hb575.2
     have hl578 := of_decide_eq_false hl578
     have hi579 : k < m.vec.length := (by first | omega | (simp only [zu]; omega))
     exact zl (k := 1) (i := k) Try.underlying34 Try.sizeOf3 (show _ = (dm0 : Value) from (Eq.trans e573 (if_pos ⟨⟨hb575.1.1, hb575.1.2⟩, hb575.2⟩))) hdm0.sl (show _ = (.int .i64 ((k : Nat) : Int) : Value) from (Eq.trans e574 (if_pos ⟨⟨hb575.1.1, hb575.1.2⟩, hb575.2⟩))) hi579 (fun vals' hv _ => ⟨rfl, hv.trans (if_pos hb575).symm⟩)
    ·intro k580 vals w581 h584 h585 hW583 hA582
     obtain rfl : k580 = 0 := Nat.le_antisymm h585 h584
     have hS586 : Sep _ _ _ _ := hW583
     have e587 : vals 13 = (if ((zt m.vec (zc n L) k) = false) ∧ (decide (0 < (m.vec.getD k 0))) = true then (.bool (decide ((((zc n L).length : Nat) : Int) ≤ ((k : Nat) : Int))) : Value) else undef) := hA582 13 (by decide)
     have e588 : vals 17 = (if (((zt m.vec (zc n L) k) = false) ∧ (decide (0 < (m.vec.getD k 0))) = true) ∧ (decide ((((zc n L).length : Nat) : Int) ≤ ((k : Nat) : Int))) = false then (.pointer (some ⟨sb dm0, so dm0 + k * 1, none⟩) : Value) else undef) := hA582 17 (by decide)
     refine yv rfl rfl e587 (fun hb589 => ?_) (fun hb589 => fun vals' hv _ => ⟨trivial, hv.trans (if_neg hb589).symm⟩)
     have hl590 := hb589.1.1
     have hl591 := hb589.1.2
     have hl591 := of_decide_eq_true hl591
     have hl592 := hb589.2
     have hl592 := of_decide_eq_false hl592
     have hi594 : k < m.vec.length := (by first | omega | (simp only [zu]; omega))
     obtain ⟨hce593, hxe593⟩ := hdm0.int hi594
     rw [← zo 0 hi594] at hce593 hxe593
     have hcw595 := hS586.cells hce593 (hdm0.foot (ne_of_lt hi594))
     exact zh (v := .int .i64 ((m.vec.getD k 0))) Try.isAgg3 (show _ = (.pointer (some ⟨sb dm0, so dm0 + k * 1, none⟩) : Value) from (Eq.trans e588 (if_pos ⟨⟨hb589.1.1, hb589.1.2⟩, hb589.2⟩))) (hcw595.get (j := 0) rfl) (fun vals' hv _ => ⟨rfl, hv.trans (if_pos hb589).symm⟩)
    ·intro k596 vals w597 h600 h601 hW599 hA598
     have e602 : vals 13 = (if ((zt m.vec (zc n L) k) = false) ∧ (decide (0 < (m.vec.getD k 0))) = true then (.bool (decide ((((zc n L).length : Nat) : Int) ≤ ((k : Nat) : Int))) : Value) else undef) := hA598 13 (by decide)
     refine yv rfl rfl e602 (fun hb603 => ?_) (fun hb603 => fun vals' hv _ => ⟨trivial, hv.trans (if_neg hb603).symm⟩)
     have hl604 := hb603.1.1
     have hl605 := hb603.1.2
     have hl605 := of_decide_eq_true hl605
     have hl606 := hb603.2
     have hl606 := of_decide_eq_false hl606
     exact zb (v := v21) rfl (fun vals' hv _ => ⟨rfl, hv.trans (if_pos hb603).symm⟩)
    ·intro k607 vals w608 h611 h612 hW610 hA609
     have e613 : vals 13 = (if ((zt m.vec (zc n L) k) = false) ∧ (decide (0 < (m.vec.getD k 0))) = true then (.bool (decide ((((zc n L).length : Nat) : Int) ≤ ((k : Nat) : Int))) : Value) else undef) := hA609 13 (by decide)
     refine yv rfl rfl e613 (fun hb614 => ?_) (fun hb614 => fun vals' hv _ => ⟨trivial, hv.trans (if_neg hb614).symm⟩)
     have hl615 := hb614.1.1
     have hl616 := hb614.1.2
     have hl616 := of_decide_eq_true hl616
     have hl617 := hb614.2
     have hl617 := of_decide_eq_false hl617
     exact zb (v := .int .i64 ((k : Nat) : Int)) rfl (fun vals' hv _ => ⟨rfl, hv.trans (if_pos hb614).symm⟩)
    ·intro k618 vals w619 h622 h623 hW621 hA620
     obtain rfl : k618 = 0 := Nat.le_antisymm h623 h622
     have hS624 : Sep _ _ _ _ := hW621
     have e625 : vals 13 = (if ((zt m.vec (zc n L) k) = false) ∧ (decide (0 < (m.vec.getD k 0))) = true then (.bool (decide ((((zc n L).length : Nat) : Int) ≤ ((k : Nat) : Int))) : Value) else undef) := hA620 13 (by decide)
     have e626 : vals 19 = (if (((zt m.vec (zc n L) k) = false) ∧ (decide (0 < (m.vec.getD k 0))) = true) ∧ (decide ((((zc n L).length : Nat) : Int) ≤ ((k : Nat) : Int))) = false then (v21 : Value) else undef) := hA620 19 (by decide)
     have e627 : vals 20 = (if (((zt m.vec (zc n L) k) = false) ∧ (decide (0 < (m.vec.getD k 0))) = true) ∧ (decide ((((zc n L).length : Nat) : Int) ≤ ((k : Nat) : Int))) = false then (.int .i64 ((k : Nat) : Int) : Value) else undef) := hA620 20 (by decide)
     refine yv rfl rfl e625 (fun hb628 => ?_) (fun hb628 => fun vals' hv _ => ⟨trivial, hv.trans (if_neg hb628).symm⟩)
     have hl629 := hb628.1.1
     have hl630 := hb628.1.2
     have hl630 := of_decide_eq_true hl630
     have hl631 := hb628.2
     have hl631 := of_decide_eq_false hl631
     have hi632 : k < (zc n L).length := (by first | omega | (simp only [zu]; omega))
     exact zl (k := 1) (i := k) Try.underlying34 Try.sizeOf3 (show _ = (v21 : Value) from (Eq.trans e626 (if_pos ⟨⟨hb628.1.1, hb628.1.2⟩, hb628.2⟩))) hr24.1 (show _ = (.int .i64 ((k : Nat) : Int) : Value) from (Eq.trans e627 (if_pos ⟨⟨hb628.1.1, hb628.1.2⟩, hb628.2⟩))) hi632 (fun vals' hv _ => ⟨rfl, hv.trans (if_pos hb628).symm⟩)
    ·intro k633 vals w634 h637 h638 hW636 hA635
     obtain rfl : k633 = 0 := Nat.le_antisymm h638 h637
     have hS639 : Sep _ _ _ _ := hW636
     have e640 : vals 13 = (if ((zt m.vec (zc n L) k) = false) ∧ (decide (0 < (m.vec.getD k 0))) = true then (.bool (decide ((((zc n L).length : Nat) : Int) ≤ ((k : Nat) : Int))) : Value) else undef) := hA635 13 (by decide)
     have e641 : vals 21 = (if (((zt m.vec (zc n L) k) = false) ∧ (decide (0 < (m.vec.getD k 0))) = true) ∧ (decide ((((zc n L).length : Nat) : Int) ≤ ((k : Nat) : Int))) = false then (.pointer (some ⟨sb v21, so v21 + k * 1, none⟩) : Value) else undef) := hA635 21 (by decide)
     refine yv rfl rfl e640 (fun hb642 => ?_) (fun hb642 => fun vals' hv _ => ⟨trivial, hv.trans (if_neg hb642).symm⟩)
     have hl643 := hb642.1.1
     have hl644 := hb642.1.2
     have hl644 := of_decide_eq_true hl644
     have hl645 := hb642.2
     have hl645 := of_decide_eq_false hl645
     have hi647 : k < (zc n L).length := (by first | omega | (simp only [zu]; omega))
     obtain ⟨_, _, hce646, rfl, hxe646⟩ := hS639.rowAt (i := 0) (j := k) rfl hi647
     rw [← zo 0 hi647] at hce646 hxe646
     exact zh (v := .int .i64 (((zc n L).getD k 0))) Try.isAgg3 (show _ = (.pointer (some ⟨sb v21, so v21 + k * 1, none⟩) : Value) from (Eq.trans e641 (if_pos ⟨⟨hb642.1.1, hb642.1.2⟩, hb642.2⟩))) (hce646.get (j := 0) rfl) (fun vals' hv _ => ⟨rfl, hv.trans (if_pos hb642).symm⟩)
    ·intro k648 vals w649 h652 h653 hW651 hA650
     obtain rfl : k648 = 0 := Nat.le_antisymm h653 h652
     have hS654 : Sep _ _ _ _ := hW651
     have e655 : vals 13 = (if ((zt m.vec (zc n L) k) = false) ∧ (decide (0 < (m.vec.getD k 0))) = true then (.bool (decide ((((zc n L).length : Nat) : Int) ≤ ((k : Nat) : Int))) : Value) else undef) := hA650 13 (by decide)
     have e656 : vals 18 = (if (((zt m.vec (zc n L) k) = false) ∧ (decide (0 < (m.vec.getD k 0))) = true) ∧ (decide ((((zc n L).length : Nat) : Int) ≤ ((k : Nat) : Int))) = false then (.int .i64 ((m.vec.getD k 0)) : Value) else undef) := hA650 18 (by decide)
     have e657 : vals 22 = (if (((zt m.vec (zc n L) k) = false) ∧ (decide (0 < (m.vec.getD k 0))) = true) ∧ (decide ((((zc n L).length : Nat) : Int) ≤ ((k : Nat) : Int))) = false then (.int .i64 (((zc n L).getD k 0)) : Value) else undef) := hA650 22 (by decide)
     refine yv rfl rfl e655 (fun hb658 => ?_) (fun hb658 => fun vals' hv _ => ⟨trivial, hv.trans (if_neg hb658).symm⟩)
     have hl659 := hb658.1.1
     have hl660 := hb658.1.2
     have hl660 := of_decide_eq_true hl660
     have hl661 := hb658.2
     have hl661 := of_decide_eq_false hl661
     exact yy (k := .i64) (a := (m.vec.getD k 0)) (b := ((zc n L).getD k 0)) (show _ = (.int .i64 ((m.vec.getD k 0)) : Value) from (Eq.trans e656 (if_pos ⟨⟨hb658.1.1, hb658.1.2⟩, hb658.2⟩))) (show _ = (.int .i64 (((zc n L).getD k 0)) : Value) from (Eq.trans e657 (if_pos ⟨⟨hb658.1.1, hb658.1.2⟩, hb658.2⟩))) (fun vals' hv _ => ⟨rfl, hv.trans (if_pos hb658).symm⟩)
    ·intro k662 vals w663 h666 h667 hW665 hA664
     have e668 : vals 8 = (if (zt m.vec (zc n L) k) = false then (.bool (decide (0 < (m.vec.getD k 0))) : Value) else undef) := hA664 8 (by decide)
     have e669 : vals 13 = (if ((zt m.vec (zc n L) k) = false) ∧ (decide (0 < (m.vec.getD k 0))) = true then (.bool (decide ((((zc n L).length : Nat) : Int) ≤ ((k : Nat) : Int))) : Value) else undef) := hA664 13 (by decide)
     have e670 : vals 23 = (if (((zt m.vec (zc n L) k) = false) ∧ (decide (0 < (m.vec.getD k 0))) = true) ∧ (decide ((((zc n L).length : Nat) : Int) ≤ ((k : Nat) : Int))) = false then (.bool (decide (((zc n L).getD k 0) < (m.vec.getD k 0))) : Value) else undef) := hA664 23 (by decide)
     refine yv rfl rfl e668 (fun hb671 => ?_) (fun hb671 => fun vals' hv _ => ⟨trivial, hv.trans (if_neg hb671).symm⟩)
     have hl672 := hb671.1
     have hl673 := hb671.2
     have hl673 := of_decide_eq_true hl673
     exact zD (b := decide ((((zc n L).length : Nat) : Int) ≤ ((k : Nat) : Int))) (b' := decide (((zc n L).getD k 0) < (m.vec.getD k 0))) (show _ = (.bool (decide ((((zc n L).length : Nat) : Int) ≤ ((k : Nat) : Int))) : Value) from (Eq.trans e669 (if_pos ⟨hb671.1, hb671.2⟩))) (fun hbp => (show _ = (.bool (decide (((zc n L).getD k 0) < (m.vec.getD k 0))) : Value) from (Eq.trans e670 (if_pos ⟨⟨hb671.1, hb671.2⟩, hbp⟩)))) (fun vals' hv _ => ⟨rfl, hv.trans (if_pos hb671).symm⟩)
    ·intro k674 vals w675 h678 h679 hW677 hA676
     have e680 := hA676 1 (by decide)
     have e681 : vals 8 = (if (zt m.vec (zc n L) k) = false then (.bool (decide (0 < (m.vec.getD k 0))) : Value) else undef) := hA676 8 (by decide)
     have e682 : vals 24 = (if ((zt m.vec (zc n L) k) = false) ∧ (decide (0 < (m.vec.getD k 0))) = true then (.bool ((decide ((((zc n L).length : Nat) : Int) ≤ ((k : Nat) : Int))) || (decide (((zc n L).getD k 0) < (m.vec.getD k 0)))) : Value) else undef) := hA676 24 (by decide)
     refine ym rfl rfl e680 (fun hb683 => ?_) (fun hb683 => fun vals' hv _ => ⟨trivial, hv.trans (if_neg hb683).symm⟩)
     have hl684 := hb683
     exact zI (b := decide (0 < (m.vec.getD k 0))) (b' := (decide ((((zc n L).length : Nat) : Int) ≤ ((k : Nat) : Int))) || (decide (((zc n L).getD k 0) < (m.vec.getD k 0)))) (show _ = (.bool (decide (0 < (m.vec.getD k 0))) : Value) from (Eq.trans e681 (if_pos hb683))) (fun hbp => (show _ = (.bool ((decide ((((zc n L).length : Nat) : Int) ≤ ((k : Nat) : Int))) || (decide (((zc n L).getD k 0) < (m.vec.getD k 0)))) : Value) from (Eq.trans e682 (if_pos ⟨hb683, hbp⟩)))) (fun vals' hv _ => ⟨rfl, hv.trans (if_pos hb683).symm⟩)
    ·intro k685 vals w686 h689 h690 hW688 hA687
     have e691 := hA687 1 (by decide)
     have e692 : vals 25 = (if (zt m.vec (zc n L) k) = false then (.bool ((decide (0 < (m.vec.getD k 0))) && ((decide ((((zc n L).length : Nat) : Int) ≤ ((k : Nat) : Int))) || (decide (((zc n L).getD k 0) < (m.vec.getD k 0))))) : Value) else undef) := hA687 25 (by decide)
     refine obl rfl ?_
     exact zD (b := (zt m.vec (zc n L) k)) (b' := (decide (0 < (m.vec.getD k 0))) && ((decide ((((zc n L).length : Nat) : Int) ≤ ((k : Nat) : Int))) || (decide (((zc n L).getD k 0) < (m.vec.getD k 0))))) e691 (fun hbp => (show _ = (.bool ((decide (0 < (m.vec.getD k 0))) && ((decide ((((zc n L).length : Nat) : Int) ≤ ((k : Nat) : Int))) || (decide (((zc n L).getD k 0) < (m.vec.getD k 0))))) : Value) from (Eq.trans e692 (if_pos hbp)))) (fun vals' hv _ => ⟨rfl, hv⟩)
    ·intro k693 vals w694 h697 h698 hW696 hA695
     have e699 := hA695 26 (by decide)
     refine obl rfl ?_
     exact zf (v := .bool ((zt m.vec (zc n L) k) || ((decide (0 < (m.vec.getD k 0))) && ((decide ((((zc n L).length : Nat) : Int) ≤ ((k : Nat) : Int))) || (decide (((zc n L).getD k 0) < (m.vec.getD k 0))))))) e699 (fun vals' hv _ => ⟨rfl, hv⟩)
    intro vals w700 hW701 hA702
    have hS703 : Sep _ _ _ _ := hW701
    have e704 := hA702 27 (by decide)
    refine yj (kv := [(0, .pointer (some ⟨b, 0, none⟩)), (1, .int .i64 (self)), (6, .pointer (some ⟨b6, 0, none⟩)), (9, (.slice none 0 0)), (11, v21), (12, .bool ((zt m.vec (zc n L) k) || ((decide (0 < (m.vec.getD k 0))) && ((decide ((((zc n L).length : Nat) : Int) ≤ ((k : Nat) : Int))) || (decide (((zc n L).getD k 0) < (m.vec.getD k 0))))))), (13, .int .i64 ((k : Nat) : Int)), (42, .int .i64 ((k : Nat) : Int)), (43, .pointer (some ⟨b6, 3, none⟩)), (44, dm0), (45, .int .i64 ((m.vec.length : Nat) : Int)), (46, .bool true)]) ⟨rfl, rfl, rfl, rfl, rfl, (by exact e704), rfl, rfl, rfl, rfl, rfl, rfl, trivial⟩ (fun ρw700 => ?_)
    refine zg ?_
    refine za (by kernel_rfl) (fun _ => ?_)
    refine st (zb (v := .int .i64 ((k : Nat) : Int)) rfl ?_)
    have hr705 : InR ((k + 1 : Nat) : Int) := by first | omega | (simp only [zu]; omega)
    refine st (zU (r := ((k + 1 : Nat) : Int)) (k := .i64) (a := ((k : Nat) : Int)) (b := 1) rfl rfl (by rw [show (((k : Nat) : Int) + 1 : Int) = ((k + 1 : Nat) : Int) by first | omega | (simp only [zu]; omega)]; exact zH hr705) ?_)
    refine st (zf (v := .int .i64 ((k + 1 : Nat) : Int)) rfl ?_)
    refine zg ?_
    exact ⟨_, by omega, k + 1, _, rfl, zn ⟨rfl, rfl, rfl, rfl, rfl, (show (.bool ((zt m.vec (zc n L) k) || ((decide (0 < (m.vec.getD k 0))) && ((decide ((((zc n L).length : Nat) : Int) ≤ ((k : Nat) : Int))) || (decide (((zc n L).getD k 0) < (m.vec.getD k 0)))))) : Value) = .bool (zt m.vec (zc n L) (k + 1)) from congrArg Value.bool moreK_succ.symm), rfl, trivial⟩, by omega, hS703⟩
  ·skip
   have hc20r := hc20
   have hc20 := of_decide_eq_true hc20
   refine zm rfl ?_
   refine za (by kernel_rfl) (fun _ => ?_)
   refine st (zb (v := (.slice none 0 0)) rfl ?_)
   refine st (zb (v := .int .i64 (self)) rfl ?_)
   refine st (yI rfl ?_)
   refine st (zh (v := .int .i64 (m.frm)) Try.isAgg3 rfl (zi (hS18.blk (i := 1) rfl) rfl) ?_)
   refine st (zb (v := v16) rfl ?_)
   have ok706 : Msg.Ok (⟨3, self, m.frm, [], zA L m.vec (max 1 (min chunk 32))⟩ : Msg) := ⟨(show InR (3) from (by decide)), (show InR (self) from hself), (show InR (m.frm) from om.frm)⟩
   refine st (zW (parts' := [(0, .int .i64 (3)), (1, .int .i64 (self)), (2, .int .i64 (m.frm)), (4, v16)]) (v := .agg ((⟨3, self, m.frm, [], zA L m.vec (max 1 (min chunk 32))⟩ : Msg).cells (.slice none 0 0) v16).toArray) rfl (by obtain ⟨_, _, hv707, _⟩ := hr19.1; rw [show v16 = Value.slice _ _ _ from hv707]; simp [Instr.build, Instr.fill, go_sem, Msg.cells]) ?_)
   refine st (zz (k := 5) (parts' := [(0, .agg ((⟨3, self, m.frm, [], zA L m.vec (max 1 (min chunk 32))⟩ : Msg).cells (.slice none 0 0) v16).toArray)]) (c := ((⟨3, self, m.frm, [], zA L m.vec (max 1 (min chunk 32))⟩ : Msg).cells (.slice none 0 0) v16).toArray) Try.underlying58 Try.sizeOf57 Try.zeroValue57 (by decide) rfl (by kernel_rfl) ?_)
   intro w710 b709 hn708
   have hS711 := hS18.new hn708
   have hS715 : Sep G W ((RowE (α := Msg) own 57 (.slice none 0 0) ([] : List Msg)) :: (Blk b709 ((⟨3, self, m.frm, [], zA L m.vec (max 1 (min chunk 32))⟩ : Msg).cells (.slice none 0 0) v16).toArray 57) :: (RowE (α := Ev) own 36 v16 (zA L m.vec (max 1 (min chunk 32)))) :: (Blk b6 (m.cells dm0 dm1).toArray 57) :: Rs) w710 := hS711.rowNil own 57
   have hr716 := hS715.row (i := 0) rfl
   have hr716s : _ * 72 ≤ _ := hr716.2
   have hbk717 := hS715.blk (i := 1) rfl
   have hS718 : Sep G W ((RowE (α := Msg) own 57 (.slice none 0 0) ([] : List Msg)) :: (RowE (α := Ev) own 36 v16 (zA L m.vec (max 1 (min chunk 32)))) :: (Blk b6 (m.cells dm0 dm1).toArray 57) :: Rs) w710 := hS715.sel 4 [0, 2, 3] (Nat.le_add_left _ _) rfl rfl
   refine st (zN (src := own) (bytes := 72) (x1 := (⟨3, self, m.frm, [], zA L m.vec (max 1 (min chunk 32))⟩ : Msg)) hS718 ZM rfl rfl hbk717 (fun _ _ hN => ⟨_, _, rfl, (RdS.nil _ _), RowE.soft hN, ok706⟩) (by first | omega | (simp only [List.length_append, List.length_cons, List.length_nil, List.length_take, List.length_drop]; omega)) rfl ?_)
   intro v713 w712 hS714
   have hS714 : Sep G W ((RowE (α := Msg) own 57 v713 [(⟨3, self, m.frm, [], zA L m.vec (max 1 (min chunk 32))⟩ : Msg)]) :: (Blk b6 (m.cells dm0 dm1).toArray 57) :: Rs) w712 := hS714
   have hr719 := hS714.row (i := 0) rfl
   have hr719s : _ * 72 ≤ _ := hr719.2
   refine st (zf (v := v713) rfl ?_)
   refine zg ?_
   refine zd ?_
   refine za (by kernel_rfl) (fun _ => ?_)
   refine st (zb (v := .pointer (some ⟨b, 0, none⟩)) rfl ?_)
   refine st (zj (f := 51) (vals := [.pointer (some ⟨b, 0, none⟩)]) (cap := []) rfl rfl Try.call51 (xy  hb hS714 (hG) (hn)) ?_)
   rintro v720 w721 ⟨_, rfl, hS722⟩
   have hr723 := hS722.row (i := 0) rfl
   have hr723s : _ * 8 ≤ _ := hr723.2
   refine st (zf (v := v720) rfl ?_)
   refine zg ?_
   refine zd ?_
   refine za (by kernel_rfl) (fun _ => ?_)
   refine st (zf (v := .bool false) rfl ?_)
   refine zg ?_
   refine zd ?_
   refine zd ?_
   refine za (by kernel_rfl) (fun _ => ?_)
   refine st (zf (v := .int .i64 (0)) rfl ?_)
   refine zg ?_
   refine zx ?_
   refine yb (fun mq σ wq => ∃ (k : Nat) (ρ : Env), mq = m.vec.length - k ∧ σ = ye ρ [(0, .pointer (some ⟨b, 0, none⟩)), (1, .int .i64 (self)), (6, .pointer (some ⟨b6, 0, none⟩)), (9, v713), (11, v720), (12, .bool ((zt m.vec (zc n L) k))), (13, .int .i64 ((k : Nat) : Int))] ∧ (k ≤ m.vec.length) ∧ Sep G W ((RowE (α := Int) own 3 v720 (zc n L)) :: (RowE (α := Msg) own 57 v713 [(⟨3, self, m.frm, [], zA L m.vec (max 1 (min chunk 32))⟩ : Msg)]) :: (Blk b6 (m.cells dm0 dm1).toArray 57) :: Rs) wq) ⟨0, _, rfl, zn ⟨rfl, rfl, rfl, rfl, rfl, rfl, rfl, trivial⟩, Nat.zero_le _, hS722⟩ ?_
   rintro m725 σ726 w724 ⟨k, ρl2, rfl, rfl, hk, hS727⟩
   refine zd ?_
   refine zd ?_
   refine za (by kernel_rfl) (fun _ => ?_)
   refine st (zb (v := .int .i64 ((k : Nat) : Int)) rfl ?_)
   refine st (yh rfl ?_)
   refine st (zh (v := dm0) Try.isAgg34 rfl (zi (hS727.blk (i := 2) rfl) rfl) ?_)
   refine st (zB (n := m.vec.length) Try.underlying34 rfl hdm0.sl ?_)
   refine st (zJ (k := .i64) (a := ((k : Nat) : Int)) (b := ((m.vec.length : Nat) : Int)) rfl rfl ?_)
   refine zg ?_
   cases hc728 : decide (((k : Nat) : Int) < ((m.vec.length : Nat) : Int))
   ·skip
    have hc728r := hc728
    have hc728 := of_decide_eq_false hc728
    refine zk rfl ?_
    refine ya ?_
    refine zQ ?_
    refine zd ?_
    refine zd ?_
    obtain rfl : k = m.vec.length := by omega
    refine zF (by kernel_rfl) ?_
    refine st (yF rfl ?_)
    refine st (zh (v := .int .i64 (m.kind)) Try.isAgg3 rfl (zi (hS727.blk (i := 2) rfl) rfl) ?_)
    refine st (zO (k := .i64) (a := m.kind) (b := 1) rfl rfl ?_)
    refine st (zb (v := .bool (decide (m.kind = 1))) rfl ?_)
    refine stc (V := .bool ((zt m.vec (zc n L) m.vec.length))) rfl rfl (fun hb729 => ?_) ?_
    ·have hl730 := hb729
     have hl730 := of_decide_eq_true hl730
     exact zb (v := .bool ((zt m.vec (zc n L) m.vec.length))) rfl ⟨rfl, rfl⟩
    refine st (zI (b := decide (m.kind = 1)) (b' := (zt m.vec (zc n L) m.vec.length)) rfl (fun hbp => (show _ = (.bool ((zt m.vec (zc n L) m.vec.length)) : Value) from (if_pos hbp))) ?_)
    refine zg ?_
    cases hc731 : (decide (m.kind = 1)) && (zt m.vec (zc n L) m.vec.length)
    ·skip
     have hc731r := hc731
     try simp only [zr] at hc731
     refine zk rfl ?_
     refine zp ?_
     refine zd ?_
     refine zd ?_
     refine za (by kernel_rfl) (fun _ => ?_)
     refine st (zb (v := v713) rfl ?_)
     refine st (zB (n := [(⟨3, self, m.frm, [], zA L m.vec (max 1 (min chunk 32))⟩ : Msg)].length) Try.underlying58 rfl hr719.1 ?_)
     refine st (zO (k := .i64) (a := (([(⟨3, self, m.frm, [], zA L m.vec (max 1 (min chunk 32))⟩ : Msg)].length : Nat) : Int)) (b := 0) rfl rfl ?_)
     have hkn732 : (decide ((([(⟨3, self, m.frm, [], zA L m.vec (max 1 (min chunk 32))⟩ : Msg)].length : Nat) : Int) = 0)) = false := by simp
     rw [hkn732]
     refine zg ?_
     refine zk rfl ?_
     refine zp ?_
     refine zd ?_
     refine za (by kernel_rfl) (fun _ => ?_)
     refine st (zb (v := v713) rfl ?_)
     refine st (zf (v := v713) rfl ?_)
     refine zg ?_
     refine zw ?_
     refine zM Try.results43 (show _ = (v713 : Value) from rfl) ?_
     have hS733 : Sep G W ((RowE (α := Msg) own 57 v713 [(⟨3, self, m.frm, [], zA L m.vec (max 1 (min chunk 32))⟩ : Msg)]) :: Rs) w724 := hS727.sel 3 [1] (Nat.le_add_left _ _) rfl rfl
     rw [show [(⟨3, self, m.frm, [], zA L m.vec (max 1 (min chunk 32))⟩ : Msg)] = xi n L self m chunk from Vx (n := n) (L := L) (self := self) (c := chunk) hc15r hc20 (ask_more.trans hc731r)] at hS733
     refine ⟨v713, rfl, hS733⟩
    ·skip
     have hc731r := hc731
     try simp only [zr] at hc731
     refine zm rfl ?_
     refine za (by kernel_rfl) (fun _ => ?_)
     refine st (zb (v := v713) rfl ?_)
     refine st (zb (v := .int .i64 (self)) rfl ?_)
     refine st (yI rfl ?_)
     refine st (zh (v := .int .i64 (m.frm)) Try.isAgg3 rfl (zi (hS727.blk (i := 2) rfl) rfl) ?_)
     refine st (zb (v := v720) rfl ?_)
     have ok734 : Msg.Ok (⟨2, self, m.frm, zc n L, []⟩ : Msg) := ⟨(show InR (2) from (by decide)), (show InR (self) from hself), (show InR (m.frm) from om.frm)⟩
     refine st (zW (parts' := [(0, .int .i64 (2)), (1, .int .i64 (self)), (2, .int .i64 (m.frm)), (3, v720)]) (v := .agg ((⟨2, self, m.frm, zc n L, []⟩ : Msg).cells v720 (.slice none 0 0)).toArray) rfl (by obtain ⟨_, _, hv735, _⟩ := hr723.1; rw [show v720 = Value.slice _ _ _ from hv735]; simp [Instr.build, Instr.fill, go_sem, Msg.cells]) ?_)
     refine st (zz (k := 5) (parts' := [(0, .agg ((⟨2, self, m.frm, zc n L, []⟩ : Msg).cells v720 (.slice none 0 0)).toArray)]) (c := ((⟨2, self, m.frm, zc n L, []⟩ : Msg).cells v720 (.slice none 0 0)).toArray) Try.underlying58 Try.sizeOf57 Try.zeroValue57 (by decide) rfl (by kernel_rfl) ?_)
     intro w738 b737 hn736
     have hS739 := hS727.new hn736
     have hbk743 := hS739.blk (i := 0) rfl
     have hS744 : Sep G W ((RowE (α := Msg) own 57 v713 [(⟨3, self, m.frm, [], zA L m.vec (max 1 (min chunk 32))⟩ : Msg)]) :: (RowE (α := Int) own 3 v720 (zc n L)) :: (Blk b6 (m.cells dm0 dm1).toArray 57) :: Rs) w738 := hS739.sel 4 [2, 1, 3] (Nat.le_add_left _ _) rfl rfl
     refine st (zN (src := own) (bytes := 72) (x1 := (⟨2, self, m.frm, zc n L, []⟩ : Msg)) hS744 ZM rfl rfl hbk743 (fun _ _ hN => ⟨_, _, rfl, RowE.soft hN, (RdS.nil _ _), ok734⟩) (by first | (simp only [List.length_cons, List.length_nil]; decide) | omega) rfl ?_)
     intro v741 w740 hS742
     have hr745 := hS742.row (i := 0) rfl
     have hr745s : _ * 72 ≤ _ := hr745.2
     refine st (zf (v := v741) rfl ?_)
     refine zg ?_
     refine zd ?_
     refine zd ?_
     refine za (by kernel_rfl) (fun _ => ?_)
     refine st (zb (v := v741) rfl ?_)
     refine st (zB (n := ([(⟨3, self, m.frm, [], zA L m.vec (max 1 (min chunk 32))⟩ : Msg)] ++ [(⟨2, self, m.frm, zc n L, []⟩ : Msg)]).length) Try.underlying58 rfl hr745.1 ?_)
     refine st (zO (k := .i64) (a := ((([(⟨3, self, m.frm, [], zA L m.vec (max 1 (min chunk 32))⟩ : Msg)] ++ [(⟨2, self, m.frm, zc n L, []⟩ : Msg)]).length : Nat) : Int)) (b := 0) rfl rfl ?_)
     have hkn746 : (decide (((([(⟨3, self, m.frm, [], zA L m.vec (max 1 (min chunk 32))⟩ : Msg)] ++ [(⟨2, self, m.frm, zc n L, []⟩ : Msg)]).length : Nat) : Int) = 0)) = false := by simp
     rw [hkn746]
     refine zg ?_
     refine zk rfl ?_
     refine zp ?_
     refine zd ?_
     refine za (by kernel_rfl) (fun _ => ?_)
     refine st (zb (v := v741) rfl ?_)
     refine st (zf (v := v741) rfl ?_)
     refine zg ?_
     refine zw ?_
     refine zM Try.results43 (show _ = (v741 : Value) from rfl) ?_
     have hS747 : Sep G W ((RowE (α := Msg) own 57 v741 ([(⟨3, self, m.frm, [], zA L m.vec (max 1 (min chunk 32))⟩ : Msg)] ++ [(⟨2, self, m.frm, zc n L, []⟩ : Msg)])) :: Rs) w740 := hS742.sel 2 [0] (Nat.le_add_left _ _) rfl rfl
     rw [show [(⟨3, self, m.frm, [], zA L m.vec (max 1 (min chunk 32))⟩ : Msg)] ++ [(⟨2, self, m.frm, zc n L, []⟩ : Msg)] = xi n L self m chunk from VY (n := n) (L := L) (self := self) (c := chunk) hc15r hc20 (ask_more.trans hc731r)] at hS747
     refine ⟨v741, rfl, hS747⟩
   ·skip
    have hc728r := hc728
    have hc728 := of_decide_eq_true hc728
    refine zm rfl ?_
    refine zp ?_
    refine zd ?_
    refine zx ?_
    refine zS (WF [fun vals wq => Sep G W ((RowE (α := Int) own 3 v720 (zc n L)) :: (RowE (α := Msg) own 57 v713 [(⟨3, self, m.frm, [], zA L m.vec (max 1 (min chunk 32))⟩ : Msg)]) :: (Blk b6 (m.cells dm0 dm1).toArray 57) :: Rs) wq]) (AF [Vl 0 (.bool ((zt m.vec (zc n L) k))), Vl 1 (.bool ((zt m.vec (zc n L) k))), Vl 2 (if (zt m.vec (zc n L) k) = false then .pointer (some ⟨b6, 3, none⟩) else undef), Vl 3 (if (zt m.vec (zc n L) k) = false then dm0 else undef), Vl 4 (if (zt m.vec (zc n L) k) = false then .int .i64 ((k : Nat) : Int) else undef), Vl 5 (if (zt m.vec (zc n L) k) = false then .pointer (some ⟨sb dm0, so dm0 + k * 1, none⟩) else undef), Vl 6 (if (zt m.vec (zc n L) k) = false then .int .i64 ((m.vec.getD k 0)) else undef), Vl 7 (if (zt m.vec (zc n L) k) = false then .bool (decide (0 < (m.vec.getD k 0))) else undef), Vl 8 (if (zt m.vec (zc n L) k) = false then .bool (decide (0 < (m.vec.getD k 0))) else undef), Vl 9 (if ((zt m.vec (zc n L) k) = false) ∧ (decide (0 < (m.vec.getD k 0))) = true then .int .i64 ((k : Nat) : Int) else undef), Vl 10 (if ((zt m.vec (zc n L) k) = false) ∧ (decide (0 < (m.vec.getD k 0))) = true then v720 else undef), Vl 11 (if ((zt m.vec (zc n L) k) = false) ∧ (decide (0 < (m.vec.getD k 0))) = true then .int .i64 (((zc n L).length : Nat) : Int) else undef), Vl 12 (if ((zt m.vec (zc n L) k) = false) ∧ (decide (0 < (m.vec.getD k 0))) = true then .bool (decide ((((zc n L).length : Nat) : Int) ≤ ((k : Nat) : Int))) else undef), Vl 13 (if ((zt m.vec (zc n L) k) = false) ∧ (decide (0 < (m.vec.getD k 0))) = true then .bool (decide ((((zc n L).length : Nat) : Int) ≤ ((k : Nat) : Int))) else undef), Vl 14 (if (((zt m.vec (zc n L) k) = false) ∧ (decide (0 < (m.vec.getD k 0))) = true) ∧ (decide ((((zc n L).length : Nat) : Int) ≤ ((k : Nat) : Int))) = false then .pointer (some ⟨b6, 3, none⟩) else undef), Vl 15 (if (((zt m.vec (zc n L) k) = false) ∧ (decide (0 < (m.vec.getD k 0))) = true) ∧ (decide ((((zc n L).length : Nat) : Int) ≤ ((k : Nat) : Int))) = false then dm0 else undef), Vl 16 (if (((zt m.vec (zc n L) k) = false) ∧ (decide (0 < (m.vec.getD k 0))) = true) ∧ (decide ((((zc n L).length : Nat) : Int) ≤ ((k : Nat) : Int))) = false then .int .i64 ((k : Nat) : Int) else undef), Vl 17 (if (((zt m.vec (zc n L) k) = false) ∧ (decide (0 < (m.vec.getD k 0))) = true) ∧ (decide ((((zc n L).length : Nat) : Int) ≤ ((k : Nat) : Int))) = false then .pointer (some ⟨sb dm0, so dm0 + k * 1, none⟩) else undef), Vl 18 (if (((zt m.vec (zc n L) k) = false) ∧ (decide (0 < (m.vec.getD k 0))) = true) ∧ (decide ((((zc n L).length : Nat) : Int) ≤ ((k : Nat) : Int))) = false then .int .i64 ((m.vec.getD k 0)) else undef), Vl 19 (if (((zt m.vec (zc n L) k) = false) ∧ (decide (0 < (m.vec.getD k 0))) = true) ∧ (decide ((((zc n L).length : Nat) : Int) ≤ ((k : Nat) : Int))) = false then v720 else undef), Vl 20 (if (((zt m.vec (zc n L) k) = false) ∧ (decide (0 < (m.vec.getD k 0))) = true) ∧ (decide ((((zc n L).length : Nat) : Int) ≤ ((k : Nat) : Int))) = false then .int .i64 ((k : Nat) : Int) else undef), Vl 21 (if (((zt m.vec (zc n L) k) = false) ∧ (decide (0 < (m.vec.getD k 0))) = true) ∧ (decide ((((zc n L).length : Nat) : Int) ≤ ((k : Nat) : Int))) = false then .pointer (some ⟨sb v720, so v720 + k * 1, none⟩) else undef), Vl 22 (if (((zt m.vec (zc n L) k) = false) ∧ (decide (0 < (m.vec.getD k 0))) = true) ∧ (decide ((((zc n L).length : Nat) : Int) ≤ ((k : Nat) : Int))) = false then .int .i64 (((zc n L).getD k 0)) else undef), Vl 23 (if (((zt m.vec (zc n L) k) = false) ∧ (decide (0 < (m.vec.getD k 0))) = true) ∧ (decide ((((zc n L).length : Nat) : Int) ≤ ((k : Nat) : Int))) = false then .bool (decide (((zc n L).getD k 0) < (m.vec.getD k 0))) else undef), Vl 24 (if ((zt m.vec (zc n L) k) = false) ∧ (decide (0 < (m.vec.getD k 0))) = true then .bool ((decide ((((zc n L).length : Nat) : Int) ≤ ((k : Nat) : Int))) || (decide (((zc n L).getD k 0) < (m.vec.getD k 0)))) else undef), Vl 25 (if (zt m.vec (zc n L) k) = false then .bool ((decide (0 < (m.vec.getD k 0))) && ((decide ((((zc n L).length : Nat) : Int) ≤ ((k : Nat) : Int))) || (decide (((zc n L).getD k 0) < (m.vec.getD k 0))))) else undef), Vl 26 (.bool ((zt m.vec (zc n L) k) || ((decide (0 < (m.vec.getD k 0))) && ((decide ((((zc n L).length : Nat) : Int) ≤ ((k : Nat) : Int))) || (decide (((zc n L).getD k 0) < (m.vec.getD k 0))))))), Vl 27 (.bool ((zt m.vec (zc n L) k) || ((decide (0 < (m.vec.getD k 0))) && ((decide ((((zc n L).length : Nat) : Int) ≤ ((k : Nat) : Int))) || (decide (((zc n L).getD k 0) < (m.vec.getD k 0)))))))]) [[], [0], [0, 1], [0, 1, 2], [0, 1], [0, 1, 2, 3, 4], [0, 1, 2, 3, 4, 5], [0, 1, 2, 3, 4, 5, 6], [0, 1, 2, 3, 4, 5, 6, 7], [0, 1, 2, 3, 4, 5, 6, 7, 8], [0, 1, 2, 3, 4, 5, 6, 7, 8], [0, 1, 2, 3, 4, 5, 6, 7, 8, 10], [0, 1, 2, 3, 4, 5, 6, 7, 8, 9, 10, 11], [0, 1, 2, 3, 4, 5, 6, 7, 8, 9, 10, 11, 12], [0, 1, 2, 3, 4, 5, 6, 7, 8, 9, 10, 11, 12, 13], [0, 1, 2, 3, 4, 5, 6, 7, 8, 9, 10, 11, 12, 13, 14], [0, 1, 2, 3, 4, 5, 6, 7, 8, 9, 10, 11, 12, 13], [0, 1, 2, 3, 4, 5, 6, 7, 8, 9, 10, 11, 12, 13, 14, 15, 16], [0, 1, 2, 3, 4, 5, 6, 7, 8, 9, 10, 11, 12, 13, 14, 15, 16, 17], [0, 1, 2, 3, 4, 5, 6, 7, 8, 9, 10, 11, 12, 13], [0, 1, 2, 3, 4, 5, 6, 7, 8, 9, 10, 11, 12, 13], [0, 1, 2, 3, 4, 5, 6, 7, 8, 9, 10, 11, 12, 13, 19, 20], [0, 1, 2, 3, 4, 5, 6, 7, 8, 9, 10, 11, 12, 13, 19, 20, 21], [0, 1, 2, 3, 4, 5, 6, 7, 8, 9, 10, 11, 12, 13, 14, 15, 16, 17, 18, 19, 20, 21, 22], [0, 1, 2, 3, 4, 5, 6, 7, 8, 9, 10, 11, 12, 13, 14, 15, 16, 17, 18, 19, 20, 21, 22, 23], [0, 1, 2, 3, 4, 5, 6, 7, 8, 9, 10, 11, 12, 13, 14, 15, 16, 17, 18, 19, 20, 21, 22, 23, 24], [0, 1, 2, 3, 4, 5, 6, 7, 8, 9, 10, 11, 12, 13, 14, 15, 16, 17, 18, 19, 20, 21, 22, 23, 24, 25], [0, 1, 2, 3, 4, 5, 6, 7, 8, 9, 10, 11, 12, 13, 14, 15, 16, 17, 18, 19, 20, 21, 22, 23, 24, 25, 26]] [] [(0, 0), (0, 0), (0, 0), (0, 0), (0, 0), (0, 0), (0, 0), (0, 0), (0, 0), (0, 0), (0, 0), (0, 0), (0, 0), (0, 0), (0, 0), (0, 0), (0, 0), (0, 0), (0, 0), (0, 0), (0, 0), (0, 0), (0, 0), (0, 0), (0, 0), (0, 0), (0, 0), (0, 0)] (by kernel_rfl) (by kernel_rfl) (by kernel_rfl) rfl (by kernel_rfl) (by kernel_rfl) (fun _ h1 h2 h3 h4 _ => hS727.same h1 h2 h3 h4) ?_ (yk ⟨dA, dA, dA, dA, dA, dA, dA, dA, dA, dA, dA, dA, dA, dA, dA, dA, dA, dA, dA, dA, dA, dA, dA, dA, dA, dA, dA, dA, trivial⟩) ⟨?_, ?_, ?_, ?_, ?_, ?_, ?_, ?_, ?_, ?_, ?_, ?_, ?_, ?_, ?_, ?_, ?_, ?_, ?_, ?_, ?_, ?_, ?_, ?_, ?_, ?_, ?_, ?_, trivial⟩ ?_
    ·intro k vals vals' w hv h
     match k, h with
     | 0, h => exact h
     | _ + 1, _ => trivial
    ·intro k1064 vals w1065 h1068 h1069 hW1067 hA1066
     refine obl rfl ?_
     exact zb (v := .bool ((zt m.vec (zc n L) k))) rfl (fun vals' hv _ => ⟨rfl, hv⟩)
    ·intro k1070 vals w1071 h1074 h1075 hW1073 hA1072
     have e1076 := hA1072 0 (by decide)
     refine obl rfl ?_
     exact zb (v := .bool ((zt m.vec (zc n L) k))) e1076 (fun vals' hv _ => ⟨rfl, hv⟩)
    ·intro k1077 vals w1078 h1081 h1082 hW1080 hA1079
     have e1083 := hA1079 1 (by decide)
     refine ym rfl rfl e1083 (fun hb1084 => ?_) (fun hb1084 => fun vals' hv _ => ⟨trivial, hv.trans (if_neg hb1084).symm⟩)
     have hl1085 := hb1084
     exact yh rfl (fun vals' hv _ => ⟨rfl, hv.trans (if_pos hb1084).symm⟩)
    ·intro k1086 vals w1087 h1090 h1091 hW1089 hA1088
     obtain rfl : k1086 = 0 := Nat.le_antisymm h1091 h1090
     have hS1092 : Sep _ _ _ _ := hW1089
     have e1093 := hA1088 1 (by decide)
     have e1094 : vals 2 = (if (zt m.vec (zc n L) k) = false then (.pointer (some ⟨b6, 3, none⟩) : Value) else undef) := hA1088 2 (by decide)
     refine ym rfl rfl e1093 (fun hb1095 => ?_) (fun hb1095 => fun vals' hv _ => ⟨trivial, hv.trans (if_neg hb1095).symm⟩)
     have hl1096 := hb1095
     exact zh (v := dm0) Try.isAgg34 (show _ = (.pointer (some ⟨b6, 3, none⟩) : Value) from (Eq.trans e1094 (if_pos hb1095))) (zi (hS1092.blk (i := 2) rfl) rfl) (fun vals' hv _ => ⟨rfl, hv.trans (if_pos hb1095).symm⟩)
    ·intro k1097 vals w1098 h1101 h1102 hW1100 hA1099
     have e1103 := hA1099 1 (by decide)
     refine ym rfl rfl e1103 (fun hb1104 => ?_) (fun hb1104 => fun vals' hv _ => ⟨trivial, hv.trans (if_neg hb1104).symm⟩)
     have hl1105 := hb1104
     exact zb (v := .int .i64 ((k : Nat) : Int)) rfl (fun vals' hv _ => ⟨rfl, hv.trans (if_pos hb1104).symm⟩)
    ·intro k1106 vals w1107 h1110 h1111 hW1109 hA1108
     obtain rfl : k1106 = 0 := Nat.le_antisymm h1111 h1110
     have hS1112 : Sep _ _ _ _ := hW1109
     have e1113 := hA1108 1 (by decide)
     have e1114 : vals 3 = (if (zt m.vec (zc n L) k) = false then (dm0 : Value) else undef) := hA1108 3 (by decide)
     have e1115 : vals 4 = (if (zt m.vec (zc n L) k) = false then (.int .i64 ((k : Nat) : Int) : Value) else undef) := hA1108 4 (by decide)
     refine ym rfl rfl e1113 (fun hb1116 => ?_) (fun hb1116 => fun vals' hv _ => ⟨trivial, hv.trans (if_neg hb1116).symm⟩)
     have hl1117 := hb1116
     have hi1118 : k < m.vec.length := (by first | omega | (simp only [zu]; omega))
     exact zl (k := 1) (i := k) Try.underlying34 Try.sizeOf3 (show _ = (dm0 : Value) from (Eq.trans e1114 (if_pos hb1116))) hdm0.sl (show _ = (.int .i64 ((k : Nat) : Int) : Value) from (Eq.trans e1115 (if_pos hb1116))) hi1118 (fun vals' hv _ => ⟨rfl, hv.trans (if_pos hb1116).symm⟩)
    ·intro k1119 vals w1120 h1123 h1124 hW1122 hA1121
     obtain rfl : k1119 = 0 := Nat.le_antisymm h1124 h1123
     have hS1125 : Sep _ _ _ _ := hW1122
     have e1126 := hA1121 1 (by decide)
     have e1127 : vals 5 = (if (zt m.vec (zc n L) k) = false then (.pointer (some ⟨sb dm0, so dm0 + k * 1, none⟩) : Value) else undef) := hA1121 5 (by decide)
     refine ym rfl rfl e1126 (fun hb1128 => ?_) (fun hb1128 => fun vals' hv _ => ⟨trivial, hv.trans (if_neg hb1128).symm⟩)
     have hl1129 := hb1128
     have hi1131 : k < m.vec.length := (by first | omega | (simp only [zu]; omega))
     obtain ⟨hce1130, hxe1130⟩ := hdm0.int hi1131
     rw [← zo 0 hi1131] at hce1130 hxe1130
     have hcw1132 := hS1125.cells hce1130 (hdm0.foot (ne_of_lt hi1131))
     exact zh (v := .int .i64 ((m.vec.getD k 0))) Try.isAgg3 (show _ = (.pointer (some ⟨sb dm0, so dm0 + k * 1, none⟩) : Value) from (Eq.trans e1127 (if_pos hb1128))) (hcw1132.get (j := 0) rfl) (fun vals' hv _ => ⟨rfl, hv.trans (if_pos hb1128).symm⟩)
    ·intro k1133 vals w1134 h1137 h1138 hW1136 hA1135
     obtain rfl : k1133 = 0 := Nat.le_antisymm h1138 h1137
     have hS1139 : Sep _ _ _ _ := hW1136
     have e1140 := hA1135 1 (by decide)
     have e1141 : vals 6 = (if (zt m.vec (zc n L) k) = false then (.int .i64 ((m.vec.getD k 0)) : Value) else undef) := hA1135 6 (by decide)
     refine ym rfl rfl e1140 (fun hb1142 => ?_) (fun hb1142 => fun vals' hv _ => ⟨trivial, hv.trans (if_neg hb1142).symm⟩)
     have hl1143 := hb1142
     exact yy (k := .i64) (a := (m.vec.getD k 0)) (b := 0) (show _ = (.int .i64 ((m.vec.getD k 0)) : Value) from (Eq.trans e1141 (if_pos hb1142))) rfl (fun vals' hv _ => ⟨rfl, hv.trans (if_pos hb1142).symm⟩)
    ·intro k1144 vals w1145 h1148 h1149 hW1147 hA1146
     have e1150 := hA1146 1 (by decide)
     have e1151 : vals 7 = (if (zt m.vec (zc n L) k) = false then (.bool (decide (0 < (m.vec.getD k 0))) : Value) else undef) := hA1146 7 (by decide)
     refine ym rfl rfl e1150 (fun hb1152 => ?_) (fun hb1152 => fun vals' hv _ => ⟨trivial, hv.trans (if_neg hb1152).symm⟩)
     have hl1153 := hb1152
     exact zb (v := .bool (decide (0 < (m.vec.getD k 0)))) (show _ = (.bool (decide (0 < (m.vec.getD k 0))) : Value) from (Eq.trans e1151 (if_pos hb1152))) (fun vals' hv _ => ⟨rfl, hv.trans (if_pos hb1152).symm⟩)
    ·intro k1154 vals w1155 h1158 h1159 hW1157 hA1156
     have e1160 : vals 8 = (if (zt m.vec (zc n L) k) = false then (.bool (decide (0 < (m.vec.getD k 0))) : Value) else undef) := hA1156 8 (by decide)
     refine yv rfl rfl e1160 (fun hb1161 => ?_) (fun hb1161 => fun vals' hv _ => ⟨trivial, hv.trans (if_neg hb1161).symm⟩)
     have hl1162 := hb1161.1
     have hl1163 := hb1161.2
     have hl1163 := of_decide_eq_true hl1163
     exact zb (v := .int .i64 ((k : Nat) : Int)) rfl (fun vals' hv _ => ⟨rfl, hv.trans (if_pos hb1161).symm⟩)
    ·intro k1164 vals w1165 h1168 h1169 hW1167 hA1166
     have e1170 : vals 8 = (if (zt m.vec (zc n L) k) = false then (.bool (decide (0 < (m.vec.getD k 0))) : Value) else undef) := hA1166 8 (by decide)
     refine yv rfl rfl e1170 (fun hb1171 => ?_) (fun hb1171 => fun vals' hv _ => ⟨trivial, hv.trans (if_neg hb1171).symm⟩)
     have hl1172 := hb1171.1
     have hl1173 := hb1171.2
     have hl1173 := of_decide_eq_true hl1173
     exact zb (v := v720) rfl (fun vals' hv _ => ⟨rfl, hv.trans (if_pos hb1171).symm⟩)
    ·intro k1174 vals w1175 h1178 h1179 hW1177 hA1176
     obtain rfl : k1174 = 0 := Nat.le_antisymm h1179 h1178
     have hS1180 : Sep _ _ _ _ := hW1177
     have e1181 : vals 8 = (if (zt m.vec (zc n L) k) = false then (.bool (decide (0 < (m.vec.getD k 0))) : Value) else undef) := hA1176 8 (by decide)
     have e1182 : vals 10 = (if ((zt m.vec (zc n L) k) = false) ∧ (decide (0 < (m.vec.getD k 0))) = true then (v720 : Value) else undef) := hA1176 10 (by decide)
     refine yv rfl rfl e1181 (fun hb1183 => ?_) (fun hb1183 => fun vals' hv _ => ⟨trivial, hv.trans (if_neg hb1183).symm⟩)
     have hl1184 := hb1183.1
     have hl1185 := hb1183.2
     have hl1185 := of_decide_eq_true hl1185
     exact zB (n := (zc n L).length) Try.underlying34 (show _ = (v720 : Value) from (Eq.trans e1182 (if_pos ⟨hb1183.1, hb1183.2⟩))) hr723.1 (fun vals' hv _ => ⟨rfl, hv.trans (if_pos hb1183).symm⟩)
    ·intro k1186 vals w1187 h1190 h1191 hW1189 hA1188
     obtain rfl : k1186 = 0 := Nat.le_antisymm h1191 h1190
     have hS1192 : Sep _ _ _ _ := hW1189
     have e1193 : vals 8 = (if (zt m.vec (zc n L) k) = false then (.bool (decide (0 < (m.vec.getD k 0))) : Value) else undef) := hA1188 8 (by decide)
     have e1194 : vals 9 = (if ((zt m.vec (zc n L) k) = false) ∧ (decide (0 < (m.vec.getD k 0))) = true then (.int .i64 ((k : Nat) : Int) : Value) else undef) := hA1188 9 (by decide)
     have e1195 : vals 11 = (if ((zt m.vec (zc n L) k) = false) ∧ (decide (0 < (m.vec.getD k 0))) = true then (.int .i64 (((zc n L).length : Nat) : Int) : Value) else undef) := hA1188 11 (by decide)
     refine yv rfl rfl e1193 (fun hb1196 => ?_) (fun hb1196 => fun vals' hv _ => ⟨trivial, hv.trans (if_neg hb1196).symm⟩)
     have hl1197 := hb1196.1
     have hl1198 := hb1196.2
     have hl1198 := of_decide_eq_true hl1198
     exact xz (k := .i64) (a := ((k : Nat) : Int)) (b := (((zc n L).length : Nat) : Int)) (show _ = (.int .i64 ((k : Nat) : Int) : Value) from (Eq.trans e1194 (if_pos ⟨hb1196.1, hb1196.2⟩))) (show _ = (.int .i64 (((zc n L).length : Nat) : Int) : Value) from (Eq.trans e1195 (if_pos ⟨hb1196.1, hb1196.2⟩))) (fun vals' hv _ => ⟨rfl, hv.trans (if_pos hb1196).symm⟩)
    ·intro k1199 vals w1200 h1203 h1204 hW1202 hA1201
     have e1205 : vals 8 = (if (zt m.vec (zc n L) k) = false then (.bool (decide (0 < (m.vec.getD k 0))) : Value) else undef) := hA1201 8 (by decide)
     have e1206 : vals 12 = (if ((zt m.vec (zc n L) k) = false) ∧ (decide (0 < (m.vec.getD k 0))) = true then (.bool (decide ((((zc n L).length : Nat) : Int) ≤ ((k : Nat) : Int))) : Value) else undef) := hA1201 12 (by decide)
     refine yv rfl rfl e1205 (fun hb1207 => ?_) (fun hb1207 => fun vals' hv _ => ⟨trivial, hv.trans (if_neg hb1207).symm⟩)
     have hl1208 := hb1207.1
     have hl1209 := hb1207.2
     have hl1209 := of_decide_eq_true hl1209
     exact zb (v := .bool (decide ((((zc n L).length : Nat) : Int) ≤ ((k : Nat) : Int)))) (show _ = (.bool (decide ((((zc n L).length : Nat) : Int) ≤ ((k : Nat) : Int))) : Value) from (Eq.trans e1206 (if_pos ⟨hb1207.1, hb1207.2⟩))) (fun vals' hv _ => ⟨rfl, hv.trans (if_pos hb1207).symm⟩)
    ·intro k1210 vals w1211 h1214 h1215 hW1213 hA1212
     have e1216 : vals 13 = (if ((zt m.vec (zc n L) k) = false) ∧ (decide (0 < (m.vec.getD k 0))) = true then (.bool (decide ((((zc n L).length : Nat) : Int) ≤ ((k : Nat) : Int))) : Value) else undef) := hA1212 13 (by decide)
     refine yv rfl rfl e1216 (fun hb1217 => ?_) (fun hb1217 => fun vals' hv _ => ⟨trivial, hv.trans (if_neg hb1217).symm⟩)
     have hl1218 := hb1217.1.1
     have hl1219 := hb1217.1.2
     have hl1219 := of_decide_eq_true hl1219
     have hl1220 := hb1217.2
     have hl1220 := of_decide_eq_false hl1220
     exact yh rfl (fun vals' hv _ => ⟨rfl, hv.trans (if_pos hb1217).symm⟩)
    ·intro k1221 vals w1222 h1225 h1226 hW1224 hA1223
     obtain rfl : k1221 = 0 := Nat.le_antisymm h1226 h1225
     have hS1227 : Sep _ _ _ _ := hW1224
     have e1228 : vals 13 = (if ((zt m.vec (zc n L) k) = false) ∧ (decide (0 < (m.vec.getD k 0))) = true then (.bool (decide ((((zc n L).length : Nat) : Int) ≤ ((k : Nat) : Int))) : Value) else undef) := hA1223 13 (by decide)
     have e1229 : vals 14 = (if (((zt m.vec (zc n L) k) = false) ∧ (decide (0 < (m.vec.getD k 0))) = true) ∧ (decide ((((zc n L).length : Nat) : Int) ≤ ((k : Nat) : Int))) = false then (.pointer (some ⟨b6, 3, none⟩) : Value) else undef) := hA1223 14 (by decide)
     refine yv rfl rfl e1228 (fun hb1230 => ?_) (fun hb1230 => fun vals' hv _ => ⟨trivial, hv.trans (if_neg hb1230).symm⟩)
     have hl1231 := hb1230.1.1
     have hl1232 := hb1230.1.2
     have hl1232 := of_decide_eq_true hl1232
     have hl1233 := hb1230.2
     have hl1233 := of_decide_eq_false hl1233
     exact zh (v := dm0) Try.isAgg34 (show _ = (.pointer (some ⟨b6, 3, none⟩) : Value) from (Eq.trans e1229 (if_pos ⟨⟨hb1230.1.1, hb1230.1.2⟩, hb1230.2⟩))) (zi (hS1227.blk (i := 2) rfl) rfl) (fun vals' hv _ => ⟨rfl, hv.trans (if_pos hb1230).symm⟩)
    ·intro k1234 vals w1235 h1238 h1239 hW1237 hA1236
     have e1240 : vals 13 = (if ((zt m.vec (zc n L) k) = false) ∧ (decide (0 < (m.vec.getD k 0))) = true then (.bool (decide ((((zc n L).length : Nat) : Int) ≤ ((k : Nat) : Int))) : Value) else undef) := hA1236 13 (by decide)
     refine yv rfl rfl e1240 (fun hb1241 => ?_) (fun hb1241 => fun vals' hv _ => ⟨trivial, hv.trans (if_neg hb1241).symm⟩)
     have hl1242 := hb1241.1.1
     have hl1243 := hb1241.1.2
     have hl1243 := of_decide_eq_true hl1243
     have hl1244 := hb1241.2
     have hl1244 := of_decide_eq_false hl1244
     exact zb (v := .int .i64 ((k : Nat) : Int)) rfl (fun vals' hv _ => ⟨rfl, hv.trans (if_pos hb1241).symm⟩)
    ·intro k1245 vals w1246 h1249 h1250 hW1248 hA1247
     obtain rfl : k1245 = 0 := Nat.le_antisymm h1250 h1249
     have hS1251 : Sep _ _ _ _ := hW1248
     have e1252 : vals 13 = (if ((zt m.vec (zc n L) k) = false) ∧ (decide (0 < (m.vec.getD k 0))) = true then (.bool (decide ((((zc n L).length : Nat) : Int) ≤ ((k : Nat) : Int))) : Value) else undef) := hA1247 13 (by decide)
     have e1253 : vals 15 = (if (((zt m.vec (zc n L) k) = false) ∧ (decide (0 < (m.vec.getD k 0))) = true) ∧ (decide ((((zc n L).length : Nat) : Int) ≤ ((k : Nat) : Int))) = false then (dm0 : Value) else undef) := hA1247 15 (by decide)
     have e1254 : vals 16 = (if (((zt m.vec (zc n L) k) = false) ∧ (decide (0 < (m.vec.getD k 0))) = true) ∧ (decide ((((zc n L).length : Nat) : Int) ≤ ((k : Nat) : Int))) = false then (.int .i64 ((k : Nat) : Int) : Value) else undef) := hA1247 16 (by decide)
     refine yv rfl rfl e1252 (fun hb1255 => ?_) (fun hb1255 => fun vals' hv _ => ⟨trivial, hv.trans (if_neg hb1255).symm⟩)
     have hl1256 := hb1255.1.1
     have hl1257 := hb1255.1.2
     have hl1257 := of_decide_eq_true hl1257
     have hl1258 := hb1255.2
     have hl1258 := of_decide_eq_false hl1258
     have hi1259 : k < m.vec.length := (by first | omega | (simp only [zu]; omega))
     exact zl (k := 1) (i := k) Try.underlying34 Try.sizeOf3 (show _ = (dm0 : Value) from (Eq.trans e1253 (if_pos ⟨⟨hb1255.1.1, hb1255.1.2⟩, hb1255.2⟩))) hdm0.sl (show _ = (.int .i64 ((k : Nat) : Int) : Value) from (Eq.trans e1254 (if_pos ⟨⟨hb1255.1.1, hb1255.1.2⟩, hb1255.2⟩))) hi1259 (fun vals' hv _ => ⟨rfl, hv.trans (if_pos hb1255).symm⟩)
    ·intro k1260 vals w1261 h1264 h1265 hW1263 hA1262
     obtain rfl : k1260 = 0 := Nat.le_antisymm h1265 h1264
     have hS1266 : Sep _ _ _ _ := hW1263
     have e1267 : vals 13 = (if ((zt m.vec (zc n L) k) = false) ∧ (decide (0 < (m.vec.getD k 0))) = true then (.bool (decide ((((zc n L).length : Nat) : Int) ≤ ((k : Nat) : Int))) : Value) else undef) := hA1262 13 (by decide)
     have e1268 : vals 17 = (if (((zt m.vec (zc n L) k) = false) ∧ (decide (0 < (m.vec.getD k 0))) = true) ∧ (decide ((((zc n L).length : Nat) : Int) ≤ ((k : Nat) : Int))) = false then (.pointer (some ⟨sb dm0, so dm0 + k * 1, none⟩) : Value) else undef) := hA1262 17 (by decide)
     refine yv rfl rfl e1267 (fun hb1269 => ?_) (fun hb1269 => fun vals' hv _ => ⟨trivial, hv.trans (if_neg hb1269).symm⟩)
     have hl1270 := hb1269.1.1
     have hl1271 := hb1269.1.2
     have hl1271 := of_decide_eq_true hl1271
     have hl1272 := hb1269.2
     have hl1272 := of_decide_eq_false hl1272
     have hi1274 : k < m.vec.length := (by first | omega | (simp only [zu]; omega))
     obtain ⟨hce1273, hxe1273⟩ := hdm0.int hi1274
     rw [← zo 0 hi1274] at hce1273 hxe1273
     have hcw1275 := hS1266.cells hce1273 (hdm0.foot (ne_of_lt hi1274))
     exact zh (v := .int .i64 ((m.vec.getD k 0))) Try.isAgg3 (show _ = (.pointer (some ⟨sb dm0, so dm0 + k * 1, none⟩) : Value) from (Eq.trans e1268 (if_pos ⟨⟨hb1269.1.1, hb1269.1.2⟩, hb1269.2⟩))) (hcw1275.get (j := 0) rfl) (fun vals' hv _ => ⟨rfl, hv.trans (if_pos hb1269).symm⟩)
    ·intro k1276 vals w1277 h1280 h1281 hW1279 hA1278
     have e1282 : vals 13 = (if ((zt m.vec (zc n L) k) = false) ∧ (decide (0 < (m.vec.getD k 0))) = true then (.bool (decide ((((zc n L).length : Nat) : Int) ≤ ((k : Nat) : Int))) : Value) else undef) := hA1278 13 (by decide)
     refine yv rfl rfl e1282 (fun hb1283 => ?_) (fun hb1283 => fun vals' hv _ => ⟨trivial, hv.trans (if_neg hb1283).symm⟩)
     have hl1284 := hb1283.1.1
     have hl1285 := hb1283.1.2
     have hl1285 := of_decide_eq_true hl1285
     have hl1286 := hb1283.2
     have hl1286 := of_decide_eq_false hl1286
     exact zb (v := v720) rfl (fun vals' hv _ => ⟨rfl, hv.trans (if_pos hb1283).symm⟩)
    ·intro k1287 vals w1288 h1291 h1292 hW1290 hA1289
     have e1293 : vals 13 = (if ((zt m.vec (zc n L) k) = false) ∧ (decide (0 < (m.vec.getD k 0))) = true then (.bool (decide ((((zc n L).length : Nat) : Int) ≤ ((k : Nat) : Int))) : Value) else undef) := hA1289 13 (by decide)
     refine yv rfl rfl e1293 (fun hb1294 => ?_) (fun hb1294 => fun vals' hv _ => ⟨trivial, hv.trans (if_neg hb1294).symm⟩)
     have hl1295 := hb1294.1.1
     have hl1296 := hb1294.1.2
     have hl1296 := of_decide_eq_true hl1296
     have hl1297 := hb1294.2
     have hl1297 := of_decide_eq_false hl1297
     exact zb (v := .int .i64 ((k : Nat) : Int)) rfl (fun vals' hv _ => ⟨rfl, hv.trans (if_pos hb1294).symm⟩)
    ·intro k1298 vals w1299 h1302 h1303 hW1301 hA1300
     obtain rfl : k1298 = 0 := Nat.le_antisymm h1303 h1302
     have hS1304 : Sep _ _ _ _ := hW1301
     have e1305 : vals 13 = (if ((zt m.vec (zc n L) k) = false) ∧ (decide (0 < (m.vec.getD k 0))) = true then (.bool (decide ((((zc n L).length : Nat) : Int) ≤ ((k : Nat) : Int))) : Value) else undef) := hA1300 13 (by decide)
     have e1306 : vals 19 = (if (((zt m.vec (zc n L) k) = false) ∧ (decide (0 < (m.vec.getD k 0))) = true) ∧ (decide ((((zc n L).length : Nat) : Int) ≤ ((k : Nat) : Int))) = false then (v720 : Value) else undef) := hA1300 19 (by decide)
     have e1307 : vals 20 = (if (((zt m.vec (zc n L) k) = false) ∧ (decide (0 < (m.vec.getD k 0))) = true) ∧ (decide ((((zc n L).length : Nat) : Int) ≤ ((k : Nat) : Int))) = false then (.int .i64 ((k : Nat) : Int) : Value) else undef) := hA1300 20 (by decide)
     refine yv rfl rfl e1305 (fun hb1308 => ?_) (fun hb1308 => fun vals' hv _ => ⟨trivial, hv.trans (if_neg hb1308).symm⟩)
     have hl1309 := hb1308.1.1
     have hl1310 := hb1308.1.2
     have hl1310 := of_decide_eq_true hl1310
     have hl1311 := hb1308.2
     have hl1311 := of_decide_eq_false hl1311
     have hi1312 : k < (zc n L).length := (by first | omega | (simp only [zu]; omega))
     exact zl (k := 1) (i := k) Try.underlying34 Try.sizeOf3 (show _ = (v720 : Value) from (Eq.trans e1306 (if_pos ⟨⟨hb1308.1.1, hb1308.1.2⟩, hb1308.2⟩))) hr723.1 (show _ = (.int .i64 ((k : Nat) : Int) : Value) from (Eq.trans e1307 (if_pos ⟨⟨hb1308.1.1, hb1308.1.2⟩, hb1308.2⟩))) hi1312 (fun vals' hv _ => ⟨rfl, hv.trans (if_pos hb1308).symm⟩)
    ·intro k1313 vals w1314 h1317 h1318 hW1316 hA1315
     obtain rfl : k1313 = 0 := Nat.le_antisymm h1318 h1317
     have hS1319 : Sep _ _ _ _ := hW1316
     have e1320 : vals 13 = (if ((zt m.vec (zc n L) k) = false) ∧ (decide (0 < (m.vec.getD k 0))) = true then (.bool (decide ((((zc n L).length : Nat) : Int) ≤ ((k : Nat) : Int))) : Value) else undef) := hA1315 13 (by decide)
     have e1321 : vals 21 = (if (((zt m.vec (zc n L) k) = false) ∧ (decide (0 < (m.vec.getD k 0))) = true) ∧ (decide ((((zc n L).length : Nat) : Int) ≤ ((k : Nat) : Int))) = false then (.pointer (some ⟨sb v720, so v720 + k * 1, none⟩) : Value) else undef) := hA1315 21 (by decide)
     refine yv rfl rfl e1320 (fun hb1322 => ?_) (fun hb1322 => fun vals' hv _ => ⟨trivial, hv.trans (if_neg hb1322).symm⟩)
     have hl1323 := hb1322.1.1
     have hl1324 := hb1322.1.2
     have hl1324 := of_decide_eq_true hl1324
     have hl1325 := hb1322.2
     have hl1325 := of_decide_eq_false hl1325
     have hi1327 : k < (zc n L).length := (by first | omega | (simp only [zu]; omega))
     obtain ⟨_, _, hce1326, rfl, hxe1326⟩ := hS1319.rowAt (i := 0) (j := k) rfl hi1327
     rw [← zo 0 hi1327] at hce1326 hxe1326
     exact zh (v := .int .i64 (((zc n L).getD k 0))) Try.isAgg3 (show _ = (.pointer (some ⟨sb v720, so v720 + k * 1, none⟩) : Value) from (Eq.trans e1321 (if_pos ⟨⟨hb1322.1.1, hb1322.1.2⟩, hb1322.2⟩))) (hce1326.get (j := 0) rfl) (fun vals' hv _ => ⟨rfl, hv.trans (if_pos hb1322).symm⟩)
    ·intro k1328 vals w1329 h1332 h1333 hW1331 hA1330
     obtain rfl : k1328 = 0 := Nat.le_antisymm h1333 h1332
     have hS1334 : Sep _ _ _ _ := hW1331
     have e1335 : vals 13 = (if ((zt m.vec (zc n L) k) = false) ∧ (decide (0 < (m.vec.getD k 0))) = true then (.bool (decide ((((zc n L).length : Nat) : Int) ≤ ((k : Nat) : Int))) : Value) else undef) := hA1330 13 (by decide)
     have e1336 : vals 18 = (if (((zt m.vec (zc n L) k) = false) ∧ (decide (0 < (m.vec.getD k 0))) = true) ∧ (decide ((((zc n L).length : Nat) : Int) ≤ ((k : Nat) : Int))) = false then (.int .i64 ((m.vec.getD k 0)) : Value) else undef) := hA1330 18 (by decide)
     have e1337 : vals 22 = (if (((zt m.vec (zc n L) k) = false) ∧ (decide (0 < (m.vec.getD k 0))) = true) ∧ (decide ((((zc n L).length : Nat) : Int) ≤ ((k : Nat) : Int))) = false then (.int .i64 (((zc n L).getD k 0)) : Value) else undef) := hA1330 22 (by decide)
     refine yv rfl rfl e1335 (fun hb1338 => ?_) (fun hb1338 => fun vals' hv _ => ⟨trivial, hv.trans (if_neg hb1338).symm⟩)
     have hl1339 := hb1338.1.1
     have hl1340 := hb1338.1.2
     have hl1340 := of_decide_eq_true hl1340
     have hl1341 := hb1338.2
     have hl1341 := of_decide_eq_false hl1341
     exact yy (k := .i64) (a := (m.vec.getD k 0)) (b := ((zc n L).getD k 0)) (show _ = (.int .i64 ((m.vec.getD k 0)) : Value) from (Eq.trans e1336 (if_pos ⟨⟨hb1338.1.1, hb1338.1.2⟩, hb1338.2⟩))) (show _ = (.int .i64 (((zc n L).getD k 0)) : Value) from (Eq.trans e1337 (if_pos ⟨⟨hb1338.1.1, hb1338.1.2⟩, hb1338.2⟩))) (fun vals' hv _ => ⟨rfl, hv.trans (if_pos hb1338).symm⟩)
    ·intro k1342 vals w1343 h1346 h1347 hW1345 hA1344
     have e1348 : vals 8 = (if (zt m.vec (zc n L) k) = false then (.bool (decide (0 < (m.vec.getD k 0))) : Value) else undef) := hA1344 8 (by decide)
     have e1349 : vals 13 = (if ((zt m.vec (zc n L) k) = false) ∧ (decide (0 < (m.vec.getD k 0))) = true then (.bool (decide ((((zc n L).length : Nat) : Int) ≤ ((k : Nat) : Int))) : Value) else undef) := hA1344 13 (by decide)
     have e1350 : vals 23 = (if (((zt m.vec (zc n L) k) = false) ∧ (decide (0 < (m.vec.getD k 0))) = true) ∧ (decide ((((zc n L).length : Nat) : Int) ≤ ((k : Nat) : Int))) = false then (.bool (decide (((zc n L).getD k 0) < (m.vec.getD k 0))) : Value) else undef) := hA1344 23 (by decide)
     refine yv rfl rfl e1348 (fun hb1351 => ?_) (fun hb1351 => fun vals' hv _ => ⟨trivial, hv.trans (if_neg hb1351).symm⟩)
     have hl1352 := hb1351.1
     have hl1353 := hb1351.2
     have hl1353 := of_decide_eq_true hl1353
     exact zD (b := decide ((((zc n L).length : Nat) : Int) ≤ ((k : Nat) : Int))) (b' := decide (((zc n L).getD k 0) < (m.vec.getD k 0))) (show _ = (.bool (decide ((((zc n L).length : Nat) : Int) ≤ ((k : Nat) : Int))) : Value) from (Eq.trans e1349 (if_pos ⟨hb1351.1, hb1351.2⟩))) (fun hbp => (show _ = (.bool (decide (((zc n L).getD k 0) < (m.vec.getD k 0))) : Value) from (Eq.trans e1350 (if_pos ⟨⟨hb1351.1, hb1351.2⟩, hbp⟩)))) (fun vals' hv _ => ⟨rfl, hv.trans (if_pos hb1351).symm⟩)
    ·intro k1354 vals w1355 h1358 h1359 hW1357 hA1356
     have e1360 := hA1356 1 (by decide)
     have e1361 : vals 8 = (if (zt m.vec (zc n L) k) = false then (.bool (decide (0 < (m.vec.getD k 0))) : Value) else undef) := hA1356 8 (by decide)
     have e1362 : vals 24 = (if ((zt m.vec (zc n L) k) = false) ∧ (decide (0 < (m.vec.getD k 0))) = true then (.bool ((decide ((((zc n L).length : Nat) : Int) ≤ ((k : Nat) : Int))) || (decide (((zc n L).getD k 0) < (m.vec.getD k 0)))) : Value) else undef) := hA1356 24 (by decide)
     refine ym rfl rfl e1360 (fun hb1363 => ?_) (fun hb1363 => fun vals' hv _ => ⟨trivial, hv.trans (if_neg hb1363).symm⟩)
     have hl1364 := hb1363
     exact zI (b := decide (0 < (m.vec.getD k 0))) (b' := (decide ((((zc n L).length : Nat) : Int) ≤ ((k : Nat) : Int))) || (decide (((zc n L).getD k 0) < (m.vec.getD k 0)))) (show _ = (.bool (decide (0 < (m.vec.getD k 0))) : Value) from (Eq.trans e1361 (if_pos hb1363))) (fun hbp => (show _ = (.bool ((decide ((((zc n L).length : Nat) : Int) ≤ ((k : Nat) : Int))) || (decide (((zc n L).getD k 0) < (m.vec.getD k 0)))) : Value) from (Eq.trans e1362 (if_pos ⟨hb1363, hbp⟩)))) (fun vals' hv _ => ⟨rfl, hv.trans (if_pos hb1363).symm⟩)
    ·intro k1365 vals w1366 h1369 h1370 hW1368 hA1367
     have e1371 := hA1367 1 (by decide)
     have e1372 : vals 25 = (if (zt m.vec (zc n L) k) = false then (.bool ((decide (0 < (m.vec.getD k 0))) && ((decide ((((zc n L).length : Nat) : Int) ≤ ((k : Nat) : Int))) || (decide (((zc n L).getD k 0) < (m.vec.getD k 0))))) : Value) else undef) := hA1367 25 (by decide)
     refine obl rfl ?_
     exact zD (b := (zt m.vec (zc n L) k)) (b' := (decide (0 < (m.vec.getD k 0))) && ((decide ((((zc n L).length : Nat) : Int) ≤ ((k : Nat) : Int))) || (decide (((zc n L).getD k 0) < (m.vec.getD k 0))))) e1371 (fun hbp => (show _ = (.bool ((decide (0 < (m.vec.getD k 0))) && ((decide ((((zc n L).length : Nat) : Int) ≤ ((k : Nat) : Int))) || (decide (((zc n L).getD k 0) < (m.vec.getD k 0))))) : Value) from (Eq.trans e1372 (if_pos hbp)))) (fun vals' hv _ => ⟨rfl, hv⟩)
    ·intro k1373 vals w1374 h1377 h1378 hW1376 hA1375
     have e1379 := hA1375 26 (by decide)
     refine obl rfl ?_
     exact zf (v := .bool ((zt m.vec (zc n L) k) || ((decide (0 < (m.vec.getD k 0))) && ((decide ((((zc n L).length : Nat) : Int) ≤ ((k : Nat) : Int))) || (decide (((zc n L).getD k 0) < (m.vec.getD k 0))))))) e1379 (fun vals' hv _ => ⟨rfl, hv⟩)
    intro vals w1380 hW1381 hA1382
    have hS1383 : Sep _ _ _ _ := hW1381
    have e1384 := hA1382 27 (by decide)
    refine yj (kv := [(0, .pointer (some ⟨b, 0, none⟩)), (1, .int .i64 (self)), (6, .pointer (some ⟨b6, 0, none⟩)), (9, v713), (11, v720), (12, .bool ((zt m.vec (zc n L) k) || ((decide (0 < (m.vec.getD k 0))) && ((decide ((((zc n L).length : Nat) : Int) ≤ ((k : Nat) : Int))) || (decide (((zc n L).getD k 0) < (m.vec.getD k 0))))))), (13, .int .i64 ((k : Nat) : Int)), (42, .int .i64 ((k : Nat) : Int)), (43, .pointer (some ⟨b6, 3, none⟩)), (44, dm0), (45, .int .i64 ((m.vec.length : Nat) : Int)), (46, .bool true)]) ⟨rfl, rfl, rfl, rfl, rfl, (by exact e1384), rfl, rfl, rfl, rfl, rfl, rfl, trivial⟩ (fun ρw1380 => ?_)
    refine zg ?_
    refine za (by kernel_rfl) (fun _ => ?_)
    refine st (zb (v := .int .i64 ((k : Nat) : Int)) rfl ?_)
    have hr1385 : InR ((k + 1 : Nat) : Int) := by first | omega | (simp only [zu]; omega)
    refine st (zU (r := ((k + 1 : Nat) : Int)) (k := .i64) (a := ((k : Nat) : Int)) (b := 1) rfl rfl (by rw [show (((k : Nat) : Int) + 1 : Int) = ((k + 1 : Nat) : Int) by first | omega | (simp only [zu]; omega)]; exact zH hr1385) ?_)
    refine st (zf (v := .int .i64 ((k + 1 : Nat) : Int)) rfl ?_)
    refine zg ?_
    exact ⟨_, by omega, k + 1, _, rfl, zn ⟨rfl, rfl, rfl, rfl, rfl, (show (.bool ((zt m.vec (zc n L) k) || ((decide (0 < (m.vec.getD k 0))) && ((decide ((((zc n L).length : Nat) : Int) ≤ ((k : Nat) : Int))) || (decide (((zc n L).getD k 0) < (m.vec.getD k 0)))))) : Value) = .bool (zt m.vec (zc n L) (k + 1)) from congrArg Value.bool moreK_succ.symm), rfl, trivial⟩, by omega, hS1383⟩
 ·skip
  have hc15r := hc15
  try simp only [zr] at hc15
  refine zm rfl ?_
  refine zd ?_
  refine za (by kernel_rfl) (fun _ => ?_)
  refine st (zf (v := (.slice none 0 0)) rfl ?_)
  refine zg ?_
  refine zw ?_
  refine zM Try.results43 (show _ = ((.slice none 0 0) : Value) from rfl) ?_
  have hS1386 : Sep G W ((RowE (α := Msg) own 57 (.slice none 0 0) ([] : List Msg)) :: (Blk b6 (m.cells dm0 dm1).toArray 57) :: Rs) w7 := hS8.rowNil own 57
  have hS1387 : Sep G W ((RowE (α := Msg) own 57 (.slice none 0 0) ([] : List Msg)) :: Rs) w7 := hS1386.sel 2 [0] (Nat.le_add_left _ _) rfl rfl
  rw [VD (n := n) (L := L) (self := self) (c := chunk) hc15r] at hS1387
  refine ⟨(.slice none 0 0), rfl, hS1387⟩

end Go.Proofs.Ytgjgmojjeehieaa
end
