/- Texts of this claim, part 12. -/
import Derived.Test.YtgjgmojjeehieaaZ11
set_option linter.unusedSimpArgs false
set_option linter.unusedVariables false
set_option linter.unusedSectionVars false
section
/- Steps of the proofs of this seat: part T3. -/
set_option maxRecDepth 8000
set_option maxHeartbeats 4000000
namespace Go.Proofs.Ytgjgmojjeehieaa
open Go.Proofs Go.RowKit

theorem Xs {G : Nat → Prop} {W w : World} {Rs : List HP} {n : Nat} (hn : n ≤ 1000) {vl : Value} {l : List Ev} (hl : RdS W G vl l) (hS0 : Sep G W Rs w) (hl9 : l.length ≤ 1000) : Ret Try.prog 40 [.int .i64 ((n : Nat) : Int), vl] w (fun r w' => ∃ (b : Nat), r = (.pointer (some ⟨b, 0, none⟩) : Value) ∧ Sep G W ((SetO b n (ze n l)) :: Rs) w') := by
 have hls : _ * 96 ≤ _ := hl.small
 refine zq (args := [.int .i64 ((n : Nat) : Int), vl]) Try.func40 rfl rfl ?_
 refine zd ?_
 refine za (by kernel_rfl) (fun _ => ?_)
 refine st (zf (v := .pointer none) rfl ?_)
 refine zg ?_
 refine zd ?_
 refine za (by kernel_rfl) (fun _ => ?_)
 refine st (zb (v := .int .i64 ((n : Nat) : Int)) rfl ?_)
 refine st (zj (f := 20) (vals := [.int .i64 ((n : Nat) : Int)]) (cap := []) rfl rfl Try.call20 (VF (n := n) (by first | omega | (refine ⟨?_, ?_⟩ <;> omega)) hS0) ?_)
 rintro _ w2 ⟨b1, rfl, hS3⟩
 refine st (zf (v := .pointer (some ⟨b1, 0, none⟩)) rfl ?_)
 refine zg ?_
 refine zd ?_
 refine zd ?_
 refine za (by kernel_rfl) (fun _ => ?_)
 refine st (zb (v := .pointer (some ⟨b1, 0, none⟩)) rfl ?_)
 refine st (Zu (b := b1) (o := 0) Try.underlying26 rfl ?_)
 refine zg ?_
 refine zk rfl ?_
 refine zp ?_
 refine zd ?_
 refine zd ?_
 refine za (by kernel_rfl) (fun _ => ?_)
 refine st (zf (v := .int .i64 (0)) rfl ?_)
 refine zg ?_
 refine zx ?_
 refine yb (fun mq σ wq => ∃ (k : Nat) (ρ : Env), mq = l.length - k ∧ σ = ye ρ [(0, .int .i64 ((n : Nat) : Int)), (1, vl), (5, .pointer (some ⟨b1, 0, none⟩)), (6, .int .i64 ((k : Nat) : Int))] ∧ (k ≤ l.length) ∧ Sep G W ((SetO b1 n (ze n (l.take k))) :: Rs) wq) ⟨0, _, rfl, zn ⟨rfl, rfl, rfl, rfl, trivial⟩, Nat.zero_le _, hS3⟩ ?_
 rintro m5 σ6 w4 ⟨k, ρl1, rfl, rfl, hkk, hS7⟩
 refine zd ?_
 refine zd ?_
 refine za (by kernel_rfl) (fun _ => ?_)
 refine st (zb (v := .int .i64 ((k : Nat) : Int)) rfl ?_)
 refine st (zb (v := vl) rfl ?_)
 refine st (zB (n := l.length) Try.underlying22 rfl hl.sl ?_)
 refine st (zJ (k := .i64) (a := ((k : Nat) : Int)) (b := ((l.length : Nat) : Int)) rfl rfl ?_)
 refine zg ?_
 cases hc8 : decide (((k : Nat) : Int) < ((l.length : Nat) : Int))
 ·skip
  have hc8 := of_decide_eq_false hc8
  refine zk rfl ?_
  refine ya ?_
  refine zQ ?_
  refine zd ?_
  refine za (by kernel_rfl) (fun _ => ?_)
  refine st (zb (v := .pointer (some ⟨b1, 0, none⟩)) rfl ?_)
  refine st (zf (v := .pointer (some ⟨b1, 0, none⟩)) rfl ?_)
  refine zg ?_
  refine zw ?_
  refine zM Try.results40 (show _ = (.pointer (some ⟨b1, 0, none⟩) : Value) from rfl) ?_
  have hk9 : k = l.length := by omega
  rw [hk9, List.take_length] at hS7
  refine ⟨b1, rfl, hS7⟩
 ·skip
  have hc8 := of_decide_eq_true hc8
  refine zm rfl ?_
  refine zp ?_
  refine zd ?_
  refine zx ?_
  refine za (by kernel_rfl) (fun _ => ?_)
  refine st (zb (v := .pointer (some ⟨b1, 0, none⟩)) rfl ?_)
  refine st (zb (v := vl) rfl ?_)
  refine st (zb (v := .int .i64 ((k : Nat) : Int)) rfl ?_)
  have hi9 : k < l.length := (by first | omega | (simp only [zu]; omega))
  refine st (zl (k := 10) (i := k) Try.underlying22 Try.sizeOf36 rfl hl.sl rfl hi9 ?_)
  have hi11 : k < l.length := (by first | omega | (simp only [zu]; omega))
  obtain ⟨hce10, hde10_0, hoke10⟩ := hl.ev hi11
  rw [← zo default hi11] at hce10 hde10_0 hoke10
  have hsm12 : ((l.getD k default).deps).length * 8 ≤ 140737488355328 := hde10_0.small
  have hcw13 := hS7.cells hce10 (hl.foot (ne_of_lt hi11))
  refine st (zv (k := 10) Try.isAgg36 Try.sizeOf36 rfl rfl hcw13 ?_)
  refine st (zj (f := 21) (vals := [.pointer (some ⟨b1, 0, none⟩), .agg ((l.getD k default).cells (zR W (sb vl) (so vl + k * 10 + 3))).toArray]) (cap := []) rfl rfl Try.call21 (D_Add (e := (l.getD k default)) hde10_0 hoke10 hS7 ((Nat.le_trans Zx (by omega))) (laidL_good.len)) ?_)
  rintro _ w16 ⟨L114, rfl, hL115, hS17⟩
  refine zg ?_
  refine za (by kernel_rfl) (fun _ => ?_)
  refine st (zb (v := .int .i64 ((k : Nat) : Int)) rfl ?_)
  have hr18 : InR ((k + 1 : Nat) : Int) := by first | omega | (simp only [zu]; omega)
  refine st (zU (r := ((k + 1 : Nat) : Int)) (k := .i64) (a := ((k : Nat) : Int)) (b := 1) rfl rfl (by rw [show (((k : Nat) : Int) + 1 : Int) = ((k + 1 : Nat) : Int) by first | omega | (simp only [zu]; omega)]; exact zH hr18) ?_)
  refine st (zf (v := .int .i64 ((k + 1 : Nat) : Int)) rfl ?_)
  refine zg ?_
  have hL19 : (ze n (l.take (k + 1))) = L114 := (by rw [hL115]; exact (YD (by omega)).symm)
  rw [← hL19] at hS17
  exact ⟨_, by omega, k + 1, _, rfl, zn ⟨rfl, rfl, rfl, rfl, trivial⟩, by omega, hS17⟩

def evZ : Ev := ⟨0, 1, 1, [0, 0], 0, 0, 0, 1, 1, 0⟩
theorem Ql : evZ.Ok := by constructor <;> decide
theorem UM : evB.Ok := by constructor <;> decide
theorem kl27 : ze 2 [evZ, evB] = [evZ, evB] := by decide +kernel
theorem kg27 : Good 2 [evZ, evB] := by rw [← kl27]; exact laidL_good
def an14 : List Msg := [⟨3, 0, 1, [], [evZ]⟩]
def an18 : List Msg := [⟨2, 0, 1, [1, 1], []⟩]
def an22 : List Msg := [⟨4, 0, 1, [1, 1], []⟩]
def an26 : List Msg := [⟨3, 0, 1, [], [evZ]⟩, ⟨2, 0, 1, [1, 1], []⟩]
def an30 : List Msg := []
theorem Qn {G : Nat → Prop} {W w : World} {Rs : List HP}  (hS0 : Sep G W Rs w) : Ret Try.prog 72 [] w (fun r w' => ∃ (v : Value), r = (v : Value) ∧ Sep G W ((RowE (α := Ev) own 36 v [evZ, evB]) :: Rs) w') := by
 refine zq (args := []) Try.func72 rfl rfl ?_
 refine zd ?_
 refine za (by kernel_rfl) (fun _ => ?_)
 refine st (zf (v := (.slice none 0 0)) rfl ?_)
 refine zg ?_
 refine zd ?_
 refine za (by kernel_rfl) (fun _ => ?_)
 refine st (zW (parts' := [(0, .int .i64 (0)), (1, .int .i64 (1))]) (v := .agg #[.int .i64 (0), .int .i64 (1)]) rfl (by simp [Instr.build, Instr.fill, go_sem, Ev.cells]) ?_)
 refine st (zz (k := 1) (parts' := [(0, .int .i64 (0)), (1, .int .i64 (0))]) (c := #[.int .i64 (0), .int .i64 (0)]) Try.underlying34 Try.sizeOf3 Try.zeroValue3 (by decide) rfl (by kernel_rfl) ?_)
 intro w3 b2 hn1
 have hS4 := hS0.new hn1
 have hS5 : Sep G W ((RowE (α := Int) own 3 (.slice (some ⟨b2, 0, none⟩) 2 2) [0, 0]) :: Rs) w3 := Sep.blkRow (src := own) (l := [0, 0]) (css := [[.int .i64 (0)], [.int .i64 (0)]]) hS4 rfl ⟨fun _ _ => ⟨rfl, (by decide)⟩, fun _ _ => ⟨rfl, (by decide)⟩, trivial⟩ (by first | decide | (simp only [List.length_cons, List.length_nil]; decide))
 have hr6 := hS5.row (i := 0) rfl
 have hr6s : _ * 8 ≤ _ := hr6.2
 have ok7 : Ev.Ok (⟨0, 1, 1, [0, 0], 0, 0, 0, 1, 1, 0⟩ : Ev) := ⟨(show InR (0) from (by decide)), (show InR (1) from (by decide)), (show InR (1) from (by decide)), (show InR (0) from (by decide)), (show InR (0) from (by decide)), (show InR (0) from (by decide)), (show InR (1) from (by decide)), (show InR (1) from (by decide)), (show InR (0) from (by decide))⟩
 refine st (zW (parts' := [(0, .agg #[.int .i64 (0), .int .i64 (1)]), (1, .int .i64 (1)), (2, (.slice (some ⟨b2, 0, none⟩) 2 2)), (6, .int .i64 (1)), (7, .int .i64 (1))]) (v := .agg ((⟨0, 1, 1, [0, 0], 0, 0, 0, 1, 1, 0⟩ : Ev).cells (.slice (some ⟨b2, 0, none⟩) 2 2)).toArray) rfl (by simp [Instr.build, Instr.fill, go_sem, Ev.cells]) ?_)
 refine st (zW (parts' := [(0, .int .i64 (1)), (1, .int .i64 (1))]) (v := .agg #[.int .i64 (1), .int .i64 (1)]) rfl (by simp [Instr.build, Instr.fill, go_sem, Ev.cells]) ?_)
 refine st (zz (k := 1) (parts' := [(0, .int .i64 (1)), (1, .int .i64 (0))]) (c := #[.int .i64 (1), .int .i64 (0)]) Try.underlying34 Try.sizeOf3 Try.zeroValue3 (by decide) rfl (by kernel_rfl) ?_)
 intro w10 b9 hn8
 have hS11 := hS5.new hn8
 have hS12 : Sep G W ((RowE (α := Int) own 3 (.slice (some ⟨b9, 0, none⟩) 2 2) [1, 0]) :: (RowE (α := Int) own 3 (.slice (some ⟨b2, 0, none⟩) 2 2) [0, 0]) :: Rs) w10 := Sep.blkRow (src := own) (l := [1, 0]) (css := [[.int .i64 (1)], [.int .i64 (0)]]) hS11 rfl ⟨fun _ _ => ⟨rfl, (by decide)⟩, fun _ _ => ⟨rfl, (by decide)⟩, trivial⟩ (by first | decide | (simp only [List.length_cons, List.length_nil]; decide))
 have hr13 := hS12.row (i := 0) rfl
 have hr13s : _ * 8 ≤ _ := hr13.2
 have ok14 : Ev.Ok (⟨1, 1, 2, [1, 0], 0, 0, 0, 1, 1, 0⟩ : Ev) := ⟨(show InR (1) from (by decide)), (show InR (1) from (by decide)), (show InR (2) from (by decide)), (show InR (0) from (by decide)), (show InR (0) from (by decide)), (show InR (0) from (by decide)), (show InR (1) from (by decide)), (show InR (1) from (by decide)), (show InR (0) from (by decide))⟩
 refine st (zW (parts' := [(0, .agg #[.int .i64 (1), .int .i64 (1)]), (1, .int .i64 (2)), (2, (.slice (some ⟨b9, 0, none⟩) 2 2)), (6, .int .i64 (1)), (7, .int .i64 (1))]) (v := .agg ((⟨1, 1, 2, [1, 0], 0, 0, 0, 1, 1, 0⟩ : Ev).cells (.slice (some ⟨b9, 0, none⟩) 2 2)).toArray) rfl (by simp [Instr.build, Instr.fill, go_sem, Ev.cells]) ?_)
 refine st (zz (k := 10) (parts' := [(0, .agg ((⟨0, 1, 1, [0, 0], 0, 0, 0, 1, 1, 0⟩ : Ev).cells (.slice (some ⟨b2, 0, none⟩) 2 2)).toArray), (1, .agg ((⟨1, 1, 2, [1, 0], 0, 0, 0, 1, 1, 0⟩ : Ev).cells (.slice (some ⟨b9, 0, none⟩) 2 2)).toArray)]) (c := #[.int .i64 (0), .int .i64 (1), .int .i64 (1), (.slice (some ⟨b2, 0, none⟩) 2 2), .int .i64 (0), .int .i64 (0), .int .i64 (0), .int .i64 (1), .int .i64 (1), .int .i64 (0), .int .i64 (1), .int .i64 (1), .int .i64 (2), (.slice (some ⟨b9, 0, none⟩) 2 2), .int .i64 (0), .int .i64 (0), .int .i64 (0), .int .i64 (1), .int .i64 (1), .int .i64 (0)]) Try.underlying22 Try.sizeOf36 Try.zeroValue36 (by decide) rfl (by kernel_rfl) ?_)
 intro w17 b16 hn15
 have hS18 := hS12.new hn15
 refine st (zf (v := (.slice (some ⟨b16, 0, none⟩) 2 2)) rfl ?_)
 refine zg ?_
 refine zw ?_
 refine zM Try.results72 (show _ = ((.slice (some ⟨b16, 0, none⟩) 2 2) : Value) from rfl) ?_
 have hS19 : Sep G W ((Blk b16 #[.int .i64 (0), .int .i64 (1), .int .i64 (1), (.slice (some ⟨b2, 0, none⟩) 2 2), .int .i64 (0), .int .i64 (0), .int .i64 (0), .int .i64 (1), .int .i64 (1), .int .i64 (0), .int .i64 (1), .int .i64 (1), .int .i64 (2), (.slice (some ⟨b9, 0, none⟩) 2 2), .int .i64 (0), .int .i64 (0), .int .i64 (0), .int .i64 (1), .int .i64 (1), .int .i64 (0)] 36) :: (RowE (α := Int) own 3 (.slice (some ⟨b2, 0, none⟩) 2 2) [0, 0]) :: (RowE (α := Int) own 3 (.slice (some ⟨b9, 0, none⟩) 2 2) [1, 0]) :: Rs) w17 := hS18.sel 3 [0, 2, 1] (Nat.le_add_left _ _) rfl rfl
 have hS20 : Sep G W ((RowE (α := Ev) own 36 (.slice (some ⟨b16, 0, none⟩) 2 2) [evZ, evB]) :: Rs) w17 := Sep.rowOf2 (cs1 := evZ.cells (.slice (some ⟨b2, 0, none⟩) 2 2)) (cs2 := evB.cells (.slice (some ⟨b9, 0, none⟩) 2 2)) hS19 rfl (fun _ _ hN => ⟨_, rfl, RowE.soft hN, Ql⟩) (fun _ _ hN => ⟨_, rfl, RowE.soft hN, UM⟩) (by decide)
 refine ⟨(.slice (some ⟨b16, 0, none⟩) 2 2), rfl, hS20⟩

theorem xo {d : Option Tmp} {ty : TypeId} {pos : String} {af : Array Edge} {g : Option (Nat × Bool)} {σ : Env} {w : World} {K : Value → World → Prop} {x : Operand} {b o : Nat} (hx : ev σ x = .pointer (some ⟨b, o, none⟩)) (h : K (.pointer (some ⟨b, o + 4, none⟩)) w) : opV Try.prog ⟨d, .fieldAddr 57 x 4, ty, pos, af, g⟩ σ w K := zL Try.underlying57 rfl rfl (fun w => ⟨0, Try.sizeOf22 w⟩) hx h
theorem xm {G : Nat → Prop} {W w : World} {Rs : List HP}  (hS0 : Sep G W Rs w) : Ret Try.prog 39 [] w (fun r w' => r = (.bool true : Value) ∧ Sep G W Rs w') := by
 refine zq (args := []) Try.func39 rfl rfl ?_
 refine zd ?_
 refine za (by kernel_rfl) (fun _ => ?_)
 refine st (zf (v := .bool false) rfl ?_)
 refine zg ?_
 refine zd ?_
 refine za (by kernel_rfl) (fun _ => ?_)
 refine st (zj (f := 72) (vals := []) (cap := []) rfl rfl Try.call72 (Qn  hS0) ?_)
 rintro v1 w2 ⟨_, rfl, hS3⟩
 have hr4 := hS3.row (i := 0) rfl
 have hr4s : _ * 96 ≤ _ := hr4.2
 obtain ⟨G5, hA7, hB8, hS9, hk10⟩ := hS3.lend
 have hrd11 := RowE.rd hA7
 have hrd11s : _ * 96 ≤ _ := hrd11.small
 refine st (zj (f := 40) (vals := [.int .i64 (2), v1]) (cap := []) rfl rfl Try.call40 (Xs (n := 2) (l := [evZ, evB]) (vl := v1) (by first | omega | (refine ⟨?_, ?_⟩ <;> omega)) hrd11 hS9 (by decide)) ?_)
 rintro _ w13 ⟨b12, rfl, hS14⟩
 have hS15 := hk10 _ _ hS14
 rw [kl27] at hS15
 have hS16 : Sep G W ((RowE (α := Ev) own 36 v1 [evZ, evB]) :: (SetO b12 2 [evZ, evB]) :: Rs) w13 := hS15
 refine st (zf (v := .pointer (some ⟨b12, 0, none⟩)) rfl ?_)
 refine zg ?_
 refine zd ?_
 refine zd ?_
 refine za (by kernel_rfl) (fun _ => ?_)
 refine st (zb (v := .pointer (some ⟨b12, 0, none⟩)) rfl ?_)
 refine st (Zu (b := b12) (o := 0) Try.underlying26 rfl ?_)
 refine zg ?_
 refine zk rfl ?_
 refine zp ?_
 refine zd ?_
 refine za (by kernel_rfl) (fun _ => ?_)
 refine st (zb (v := .pointer (some ⟨b12, 0, none⟩)) rfl ?_)
 refine st (zz (k := 1) (parts' := [(0, .int .i64 (0)), (1, .int .i64 (0))]) (c := #[.int .i64 (0), .int .i64 (0)]) Try.underlying34 Try.sizeOf3 Try.zeroValue3 (by decide) rfl (by kernel_rfl) ?_)
 intro w19 b18 hn17
 have hS20 := hS16.new hn17
 have hS21 : Sep G W ((RowE (α := Int) own 3 (.slice (some ⟨b18, 0, none⟩) 2 2) [0, 0]) :: (RowE (α := Ev) own 36 v1 [evZ, evB]) :: (SetO b12 2 [evZ, evB]) :: Rs) w19 := Sep.blkRow (src := own) (l := [0, 0]) (css := [[.int .i64 (0)], [.int .i64 (0)]]) hS20 rfl ⟨fun _ _ => ⟨rfl, (by decide)⟩, fun _ _ => ⟨rfl, (by decide)⟩, trivial⟩ (by first | decide | (simp only [List.length_cons, List.length_nil]; decide))
 have hr22 := hS21.row (i := 0) rfl
 have hr22s : _ * 8 ≤ _ := hr22.2
 have ok23 : Msg.Ok (⟨1, 1, 0, [0, 0], []⟩ : Msg) := ⟨(show InR (1) from (by decide)), (show InR (1) from (by decide)), (show InR (0) from (by decide))⟩
 refine st (zW (parts' := [(0, .int .i64 (1)), (1, .int .i64 (1)), (3, (.slice (some ⟨b18, 0, none⟩) 2 2))]) (v := .agg ((⟨1, 1, 0, [0, 0], []⟩ : Msg).cells (.slice (some ⟨b18, 0, none⟩) 2 2) (.slice none 0 0)).toArray) rfl (by simp [Instr.build, Instr.fill, go_sem, Msg.cells]) ?_)
 have hS24 := hS21.mv2
 obtain ⟨G25, hA27, hB28, hS29, hk30⟩ := hS24.lend
 obtain ⟨vv31, m32, R33, hb34, hv35, hr36⟩ := SetO.sh hA27
 have hsm37 : (zc 2 [evZ, evB]).length * 8 ≤ 140737488355328 := hv35.small
 obtain ⟨G38, hA40, hB41, hS42, hk43⟩ := hS29.lend
 have hrd44 := RowE.rd hA40
 have hrd44s : _ * 8 ≤ _ := hrd44.small
 refine st (zj (f := 41) (vals := [.pointer (some ⟨b12, 0, none⟩), .int .i64 (0), .agg ((⟨1, 1, 0, [0, 0], []⟩ : Msg).cells (.slice (some ⟨b18, 0, none⟩) 2 2) (.slice none 0 0)).toArray, .int .i64 (1)]) (cap := []) rfl rfl Try.call41 (xN (self := 0) (m := (⟨1, 1, 0, [0, 0], []⟩ : Msg)) (chunk := 1) (HP.base hA27 hB41) (by decide) hrd44 (RdS.nil _ _) ok23 (by decide) hS42 (kg27.ids) (kg27.srt) (by decide)) ?_)
 rintro v45 w46 ⟨_, rfl, hS47⟩
 have hr48 := hS47.row (i := 0) rfl
 have hr48s : _ * 72 ≤ _ := hr48.2
 have hS49 := hk43 _ _ hS47
 have hS50 := hk30 _ _ hS49
 rw [show xi 2 [evZ, evB] 0 (⟨1, 1, 0, [0, 0], []⟩ : Msg) 1 = (an14 : List Msg) from by decide +kernel] at hS50
 have hS51 : Sep G W ((SetO b12 2 [evZ, evB]) :: (RowE (α := Int) own 3 (.slice (some ⟨b18, 0, none⟩) 2 2) [0, 0]) :: (RowE (α := Msg) own 57 v45 an14) :: (RowE (α := Ev) own 36 v1 [evZ, evB]) :: Rs) w46 := hS50
 have hS52 : Sep G W ((SetO b12 2 [evZ, evB]) :: (RowE (α := Msg) own 57 v45 an14) :: (RowE (α := Ev) own 36 v1 [evZ, evB]) :: Rs) w46 := hS51.sel 4 [0, 2, 3] (Nat.le_add_left _ _) rfl rfl
 have hr53 := hS52.row (i := 1) rfl
 have hr53s : _ * 72 ≤ _ := hr53.2
 refine st (zf (v := v45) rfl ?_)
 refine zg ?_
 refine zd ?_
 refine za (by kernel_rfl) (fun _ => ?_)
 refine st (zb (v := .pointer (some ⟨b12, 0, none⟩)) rfl ?_)
 refine st (zz (k := 1) (parts' := [(0, .int .i64 (1)), (1, .int .i64 (3))]) (c := #[.int .i64 (1), .int .i64 (3)]) Try.underlying34 Try.sizeOf3 Try.zeroValue3 (by decide) rfl (by kernel_rfl) ?_)
 intro w56 b55 hn54
 have hS57 := hS52.new hn54
 have hS58 : Sep G W ((RowE (α := Int) own 3 (.slice (some ⟨b55, 0, none⟩) 2 2) [1, 3]) :: (SetO b12 2 [evZ, evB]) :: (RowE (α := Msg) own 57 v45 an14) :: (RowE (α := Ev) own 36 v1 [evZ, evB]) :: Rs) w56 := Sep.blkRow (src := own) (l := [1, 3]) (css := [[.int .i64 (1)], [.int .i64 (3)]]) hS57 rfl ⟨fun _ _ => ⟨rfl, (by decide)⟩, fun _ _ => ⟨rfl, (by decide)⟩, trivial⟩ (by first | decide | (simp only [List.length_cons, List.length_nil]; decide))
 have hr59 := hS58.row (i := 0) rfl
 have hr59s : _ * 8 ≤ _ := hr59.2
 have ok60 : Msg.Ok (⟨1, 1, 0, [1, 3], []⟩ : Msg) := ⟨(show InR (1) from (by decide)), (show InR (1) from (by decide)), (show InR (0) from (by decide))⟩
 refine st (zW (parts' := [(0, .int .i64 (1)), (1, .int .i64 (1)), (3, (.slice (some ⟨b55, 0, none⟩) 2 2))]) (v := .agg ((⟨1, 1, 0, [1, 3], []⟩ : Msg).cells (.slice (some ⟨b55, 0, none⟩) 2 2) (.slice none 0 0)).toArray) rfl (by simp [Instr.build, Instr.fill, go_sem, Msg.cells]) ?_)
 have hS61 := hS58.mv1
 obtain ⟨G62, hA64, hB65, hS66, hk67⟩ := hS61.lend
 obtain ⟨vv68, m69, R70, hb71, hv72, hr73⟩ := SetO.sh hA64
 have hsm74 : (zc 2 [evZ, evB]).length * 8 ≤ 140737488355328 := hv72.small
 obtain ⟨G75, hA77, hB78, hS79, hk80⟩ := hS66.lend
 have hrd81 := RowE.rd hA77
 have hrd81s : _ * 8 ≤ _ := hrd81.small
 refine st (zj (f := 41) (vals := [.pointer (some ⟨b12, 0, none⟩), .int .i64 (0), .agg ((⟨1, 1, 0, [1, 3], []⟩ : Msg).cells (.slice (some ⟨b55, 0, none⟩) 2 2) (.slice none 0 0)).toArray, .int .i64 (9)]) (cap := []) rfl rfl Try.call41 (xN (self := 0) (m := (⟨1, 1, 0, [1, 3], []⟩ : Msg)) (chunk := 9) (HP.base hA64 hB78) (by decide) hrd81 (RdS.nil _ _) ok60 (by decide) hS79 (kg27.ids) (kg27.srt) (by decide)) ?_)
 rintro v82 w83 ⟨_, rfl, hS84⟩
 have hr85 := hS84.row (i := 0) rfl
 have hr85s : _ * 72 ≤ _ := hr85.2
 have hS86 := hk80 _ _ hS84
 have hS87 := hk67 _ _ hS86
 rw [show xi 2 [evZ, evB] 0 (⟨1, 1, 0, [1, 3], []⟩ : Msg) 9 = (an18 : List Msg) from by decide +kernel] at hS87
 have hS88 : Sep G W ((SetO b12 2 [evZ, evB]) :: (RowE (α := Int) own 3 (.slice (some ⟨b55, 0, none⟩) 2 2) [1, 3]) :: (RowE (α := Msg) own 57 v82 an18) :: (RowE (α := Msg) own 57 v45 an14) :: (RowE (α := Ev) own 36 v1 [evZ, evB]) :: Rs) w83 := hS87
 have hS89 : Sep G W ((SetO b12 2 [evZ, evB]) :: (RowE (α := Msg) own 57 v82 an18) :: (RowE (α := Msg) own 57 v45 an14) :: (RowE (α := Ev) own 36 v1 [evZ, evB]) :: Rs) w83 := hS88.sel 5 [0, 2, 3, 4] (Nat.le_add_left _ _) rfl rfl
 have hr90 := hS89.row (i := 1) rfl
 have hr90s : _ * 72 ≤ _ := hr90.2
 refine st (zf (v := v82) rfl ?_)
 refine zg ?_
 refine zd ?_
 refine za (by kernel_rfl) (fun _ => ?_)
 refine st (zb (v := .pointer (some ⟨b12, 0, none⟩)) rfl ?_)
 refine st (zz (k := 1) (parts' := [(0, .int .i64 (1)), (1, .int .i64 (3))]) (c := #[.int .i64 (1), .int .i64 (3)]) Try.underlying34 Try.sizeOf3 Try.zeroValue3 (by decide) rfl (by kernel_rfl) ?_)
 intro w93 b92 hn91
 have hS94 := hS89.new hn91
 have hS95 : Sep G W ((RowE (α := Int) own 3 (.slice (some ⟨b92, 0, none⟩) 2 2) [1, 3]) :: (SetO b12 2 [evZ, evB]) :: (RowE (α := Msg) own 57 v82 an18) :: (RowE (α := Msg) own 57 v45 an14) :: (RowE (α := Ev) own 36 v1 [evZ, evB]) :: Rs) w93 := Sep.blkRow (src := own) (l := [1, 3]) (css := [[.int .i64 (1)], [.int .i64 (3)]]) hS94 rfl ⟨fun _ _ => ⟨rfl, (by decide)⟩, fun _ _ => ⟨rfl, (by decide)⟩, trivial⟩ (by first | decide | (simp only [List.length_cons, List.length_nil]; decide))
 have hr96 := hS95.row (i := 0) rfl
 have hr96s : _ * 8 ≤ _ := hr96.2
 have ok97 : Msg.Ok (⟨2, 1, 0, [1, 3], []⟩ : Msg) := ⟨(show InR (2) from (by decide)), (show InR (1) from (by decide)), (show InR (0) from (by decide))⟩
 refine st (zW (parts' := [(0, .int .i64 (2)), (1, .int .i64 (1)), (3, (.slice (some ⟨b92, 0, none⟩) 2 2))]) (v := .agg ((⟨2, 1, 0, [1, 3], []⟩ : Msg).cells (.slice (some ⟨b92, 0, none⟩) 2 2) (.slice none 0 0)).toArray) rfl (by simp [Instr.build, Instr.fill, go_sem, Msg.cells]) ?_)
 have hS98 := hS95.mv1
 obtain ⟨G99, hA101, hB102, hS103, hk104⟩ := hS98.lend
 obtain ⟨vv105, m106, R107, hb108, hv109, hr110⟩ := SetO.sh hA101
 have hsm111 : (zc 2 [evZ, evB]).length * 8 ≤ 140737488355328 := hv109.small
 obtain ⟨G112, hA114, hB115, hS116, hk117⟩ := hS103.lend
 have hrd118 := RowE.rd hA114
 have hrd118s : _ * 8 ≤ _ := hrd118.small
 refine st (zj (f := 41) (vals := [.pointer (some ⟨b12, 0, none⟩), .int .i64 (0), .agg ((⟨2, 1, 0, [1, 3], []⟩ : Msg).cells (.slice (some ⟨b92, 0, none⟩) 2 2) (.slice none 0 0)).toArray, .int .i64 (9)]) (cap := []) rfl rfl Try.call41 (xN (self := 0) (m := (⟨2, 1, 0, [1, 3], []⟩ : Msg)) (chunk := 9) (HP.base hA101 hB115) (by decide) hrd118 (RdS.nil _ _) ok97 (by decide) hS116 (kg27.ids) (kg27.srt) (by decide)) ?_)
 rintro v119 w120 ⟨_, rfl, hS121⟩
 have hr122 := hS121.row (i := 0) rfl
 have hr122s : _ * 72 ≤ _ := hr122.2
 have hS123 := hk117 _ _ hS121
 have hS124 := hk104 _ _ hS123
 rw [show xi 2 [evZ, evB] 0 (⟨2, 1, 0, [1, 3], []⟩ : Msg) 9 = (an22 : List Msg) from by decide +kernel] at hS124
 have hS125 : Sep G W ((SetO b12 2 [evZ, evB]) :: (RowE (α := Int) own 3 (.slice (some ⟨b92, 0, none⟩) 2 2) [1, 3]) :: (RowE (α := Msg) own 57 v119 an22) :: (RowE (α := Msg) own 57 v82 an18) :: (RowE (α := Msg) own 57 v45 an14) :: (RowE (α := Ev) own 36 v1 [evZ, evB]) :: Rs) w120 := hS124
 have hS126 : Sep G W ((SetO b12 2 [evZ, evB]) :: (RowE (α := Msg) own 57 v119 an22) :: (RowE (α := Msg) own 57 v82 an18) :: (RowE (α := Msg) own 57 v45 an14) :: (RowE (α := Ev) own 36 v1 [evZ, evB]) :: Rs) w120 := hS125.sel 6 [0, 2, 3, 4, 5] (Nat.le_add_left _ _) rfl rfl
 have hr127 := hS126.row (i := 1) rfl
 have hr127s : _ * 72 ≤ _ := hr127.2
 refine st (zf (v := v119) rfl ?_)
 refine zg ?_
 refine zd ?_
 refine za (by kernel_rfl) (fun _ => ?_)
 refine st (zb (v := .pointer (some ⟨b12, 0, none⟩)) rfl ?_)
 refine st (zz (k := 1) (parts' := [(0, .int .i64 (0)), (1, .int .i64 (2))]) (c := #[.int .i64 (0), .int .i64 (2)]) Try.underlying34 Try.sizeOf3 Try.zeroValue3 (by decide) rfl (by kernel_rfl) ?_)
 intro w130 b129 hn128
 have hS131 := hS126.new hn128
 have hS132 : Sep G W ((RowE (α := Int) own 3 (.slice (some ⟨b129, 0, none⟩) 2 2) [0, 2]) :: (SetO b12 2 [evZ, evB]) :: (RowE (α := Msg) own 57 v119 an22) :: (RowE (α := Msg) own 57 v82 an18) :: (RowE (α := Msg) own 57 v45 an14) :: (RowE (α := Ev) own 36 v1 [evZ, evB]) :: Rs) w130 := Sep.blkRow (src := own) (l := [0, 2]) (css := [[.int .i64 (0)], [.int .i64 (2)]]) hS131 rfl ⟨fun _ _ => ⟨rfl, (by decide)⟩, fun _ _ => ⟨rfl, (by decide)⟩, trivial⟩ (by first | decide | (simp only [List.length_cons, List.length_nil]; decide))
 have hr133 := hS132.row (i := 0) rfl
 have hr133s : _ * 8 ≤ _ := hr133.2
 have ok134 : Msg.Ok (⟨1, 1, 0, [0, 2], []⟩ : Msg) := ⟨(show InR (1) from (by decide)), (show InR (1) from (by decide)), (show InR (0) from (by decide))⟩
 refine st (zW (parts' := [(0, .int .i64 (1)), (1, .int .i64 (1)), (3, (.slice (some ⟨b129, 0, none⟩) 2 2))]) (v := .agg ((⟨1, 1, 0, [0, 2], []⟩ : Msg).cells (.slice (some ⟨b129, 0, none⟩) 2 2) (.slice none 0 0)).toArray) rfl (by simp [Instr.build, Instr.fill, go_sem, Msg.cells]) ?_)
 have hS135 := hS132.mv1
 obtain ⟨G136, hA138, hB139, hS140, hk141⟩ := hS135.lend
 obtain ⟨vv142, m143, R144, hb145, hv146, hr147⟩ := SetO.sh hA138
 have hsm148 : (zc 2 [evZ, evB]).length * 8 ≤ 140737488355328 := hv146.small
 obtain ⟨G149, hA151, hB152, hS153, hk154⟩ := hS140.lend
 have hrd155 := RowE.rd hA151
 have hrd155s : _ * 8 ≤ _ := hrd155.small
 refine st (zj (f := 41) (vals := [.pointer (some ⟨b12, 0, none⟩), .int .i64 (0), .agg ((⟨1, 1, 0, [0, 2], []⟩ : Msg).cells (.slice (some ⟨b129, 0, none⟩) 2 2) (.slice none 0 0)).toArray, .int .i64 (9)]) (cap := []) rfl rfl Try.call41 (xN (self := 0) (m := (⟨1, 1, 0, [0, 2], []⟩ : Msg)) (chunk := 9) (HP.base hA138 hB152) (by decide) hrd155 (RdS.nil _ _) ok134 (by decide) hS153 (kg27.ids) (kg27.srt) (by decide)) ?_)
 rintro v156 w157 ⟨_, rfl, hS158⟩
 have hr159 := hS158.row (i := 0) rfl
 have hr159s : _ * 72 ≤ _ := hr159.2
 have hS160 := hk154 _ _ hS158
 have hS161 := hk141 _ _ hS160
 rw [show xi 2 [evZ, evB] 0 (⟨1, 1, 0, [0, 2], []⟩ : Msg) 9 = (an26 : List Msg) from by decide +kernel] at hS161
 have hS162 : Sep G W ((SetO b12 2 [evZ, evB]) :: (RowE (α := Int) own 3 (.slice (some ⟨b129, 0, none⟩) 2 2) [0, 2]) :: (RowE (α := Msg) own 57 v156 an26) :: (RowE (α := Msg) own 57 v119 an22) :: (RowE (α := Msg) own 57 v82 an18) :: (RowE (α := Msg) own 57 v45 an14) :: (RowE (α := Ev) own 36 v1 [evZ, evB]) :: Rs) w157 := hS161
 have hS163 : Sep G W ((SetO b12 2 [evZ, evB]) :: (RowE (α := Msg) own 57 v156 an26) :: (RowE (α := Msg) own 57 v119 an22) :: (RowE (α := Msg) own 57 v82 an18) :: (RowE (α := Msg) own 57 v45 an14) :: (RowE (α := Ev) own 36 v1 [evZ, evB]) :: Rs) w157 := hS162.sel 7 [0, 2, 3, 4, 5, 6] (Nat.le_add_left _ _) rfl rfl
 have hr164 := hS163.row (i := 1) rfl
 have hr164s : _ * 72 ≤ _ := hr164.2
 refine st (zf (v := v156) rfl ?_)
 refine zg ?_
 refine zd ?_
 refine za (by kernel_rfl) (fun _ => ?_)
 refine st (zb (v := .pointer (some ⟨b12, 0, none⟩)) rfl ?_)
 refine st (zz (k := 1) (parts' := [(0, .int .i64 (0)), (1, .int .i64 (0))]) (c := #[.int .i64 (0), .int .i64 (0)]) Try.underlying34 Try.sizeOf3 Try.zeroValue3 (by decide) rfl (by kernel_rfl) ?_)
 intro w167 b166 hn165
 have hS168 := hS163.new hn165
 have hS169 : Sep G W ((RowE (α := Int) own 3 (.slice (some ⟨b166, 0, none⟩) 2 2) [0, 0]) :: (SetO b12 2 [evZ, evB]) :: (RowE (α := Msg) own 57 v156 an26) :: (RowE (α := Msg) own 57 v119 an22) :: (RowE (α := Msg) own 57 v82 an18) :: (RowE (α := Msg) own 57 v45 an14) :: (RowE (α := Ev) own 36 v1 [evZ, evB]) :: Rs) w167 := Sep.blkRow (src := own) (l := [0, 0]) (css := [[.int .i64 (0)], [.int .i64 (0)]]) hS168 rfl ⟨fun _ _ => ⟨rfl, (by decide)⟩, fun _ _ => ⟨rfl, (by decide)⟩, trivial⟩ (by first | decide | (simp only [List.length_cons, List.length_nil]; decide))
 have hr170 := hS169.row (i := 0) rfl
 have hr170s : _ * 8 ≤ _ := hr170.2
 have ok171 : Msg.Ok (⟨4, 1, 0, [0, 0], []⟩ : Msg) := ⟨(show InR (4) from (by decide)), (show InR (1) from (by decide)), (show InR (0) from (by decide))⟩
 refine st (zW (parts' := [(0, .int .i64 (4)), (1, .int .i64 (1)), (3, (.slice (some ⟨b166, 0, none⟩) 2 2))]) (v := .agg ((⟨4, 1, 0, [0, 0], []⟩ : Msg).cells (.slice (some ⟨b166, 0, none⟩) 2 2) (.slice none 0 0)).toArray) rfl (by simp [Instr.build, Instr.fill, go_sem, Msg.cells]) ?_)
 have hS172 := hS169.mv1
 obtain ⟨G173, hA175, hB176, hS177, hk178⟩ := hS172.lend
 obtain ⟨vv179, m180, R181, hb182, hv183, hr184⟩ := SetO.sh hA175
 have hsm185 : (zc 2 [evZ, evB]).length * 8 ≤ 140737488355328 := hv183.small
 obtain ⟨G186, hA188, hB189, hS190, hk191⟩ := hS177.lend
 have hrd192 := RowE.rd hA188
 have hrd192s : _ * 8 ≤ _ := hrd192.small
 refine st (zj (f := 41) (vals := [.pointer (some ⟨b12, 0, none⟩), .int .i64 (0), .agg ((⟨4, 1, 0, [0, 0], []⟩ : Msg).cells (.slice (some ⟨b166, 0, none⟩) 2 2) (.slice none 0 0)).toArray, .int .i64 (9)]) (cap := []) rfl rfl Try.call41 (xN (self := 0) (m := (⟨4, 1, 0, [0, 0], []⟩ : Msg)) (chunk := 9) (HP.base hA175 hB189) (by decide) hrd192 (RdS.nil _ _) ok171 (by decide) hS190 (kg27.ids) (kg27.srt) (by decide)) ?_)
 rintro v193 w194 ⟨_, rfl, hS195⟩
 have hr196 := hS195.row (i := 0) rfl
 have hr196s : _ * 72 ≤ _ := hr196.2
 have hS197 := hk191 _ _ hS195
 have hS198 := hk178 _ _ hS197
 rw [show xi 2 [evZ, evB] 0 (⟨4, 1, 0, [0, 0], []⟩ : Msg) 9 = (an30 : List Msg) from by decide +kernel] at hS198
 have hS199 : Sep G W ((SetO b12 2 [evZ, evB]) :: (RowE (α := Int) own 3 (.slice (some ⟨b166, 0, none⟩) 2 2) [0, 0]) :: (RowE (α := Msg) own 57 v193 an30) :: (RowE (α := Msg) own 57 v156 an26) :: (RowE (α := Msg) own 57 v119 an22) :: (RowE (α := Msg) own 57 v82 an18) :: (RowE (α := Msg) own 57 v45 an14) :: (RowE (α := Ev) own 36 v1 [evZ, evB]) :: Rs) w194 := hS198
 have hS200 : Sep G W ((SetO b12 2 [evZ, evB]) :: (RowE (α := Msg) own 57 v193 an30) :: (RowE (α := Msg) own 57 v156 an26) :: (RowE (α := Msg) own 57 v119 an22) :: (RowE (α := Msg) own 57 v82 an18) :: (RowE (α := Msg) own 57 v45 an14) :: (RowE (α := Ev) own 36 v1 [evZ, evB]) :: Rs) w194 := hS199.sel 8 [0, 2, 3, 4, 5, 6, 7] (Nat.le_add_left _ _) rfl rfl
 have hr201 := hS200.row (i := 1) rfl
 have hr201s : _ * 72 ≤ _ := hr201.2
 refine st (zf (v := v193) rfl ?_)
 refine zg ?_
 refine zd ?_
 have hS202 := hS200.mv1
 obtain ⟨G203, hA205, hB206, hS207, hk208⟩ := hS202.lend
 have hrd209 := RowE.rd hA205
 have hrd209s : _ * 72 ≤ _ := hrd209.small
 have hS210 := hS207.mv1
 obtain ⟨G211, hA213, hB214, hS215, hk216⟩ := hS210.lend
 have hrd217 := RowE.rd hA213
 have hrd217s : _ * 72 ≤ _ := hrd217.small
 have hS218 := hS215.mv1
 obtain ⟨G219, hA221, hB222, hS223, hk224⟩ := hS218.lend
 have hrd225 := RowE.rd hA221
 have hrd225s : _ * 72 ≤ _ := hrd225.small
 have hS226 := hS223.mv1
 obtain ⟨G227, hA229, hB230, hS231, hk232⟩ := hS226.lend
 have hrd233 := RowE.rd hA229
 have hrd233s : _ * 72 ≤ _ := hrd233.small
 have hS234 := hS231.mv1
 obtain ⟨G235, hA237, hB238, hS239, hk240⟩ := hS234.lend
 have hrd241 := RowE.rd hA237
 have hrd241s : _ * 72 ≤ _ := hrd241.small
 have hla9 : an14.length = 1 ∧ an18.length = 1 ∧ an22.length = 1 ∧ an26.length = 2 := ⟨rfl, rfl, rfl, rfl⟩
 refine zF (by kernel_rfl) ?_
 refine st (zb (v := v45) rfl ?_)
 refine st (zB (n := an14.length) Try.underlying58 rfl hrd241.sl ?_)
 have hkn242 : (decide (((an14.length : Nat) : Int) = 1)) = true := by decide +kernel
 refine st (xh (congrArg Value.bool hkn242) (fun K9 h9 => zO (k := .i64) (a := ((an14.length : Nat) : Int)) (b := 1) rfl rfl h9) ?_)
 refine st (zb (v := .bool true) rfl ?_)
 refine sty rfl rfl (zb (v := v45) rfl ?_)
 have hi243 : 0 < an14.length := (by first | omega | (simp only [zu]; omega))
 refine sty rfl rfl (zl (k := 5) (i := 0) Try.underlying58 Try.sizeOf57 rfl hrd241.sl rfl hi243 ?_)
 refine sty rfl rfl (yF rfl ?_)
 have hi245 : 0 < an14.length := (by first | omega | (simp only [zu]; omega))
 obtain ⟨hce244, hde244_0, hde244_1, hoke244⟩ := hrd241.msg hi245
 rw [← zo default hi245] at hce244 hde244_0 hde244_1 hoke244
 have hsm246 : ((an14.getD 0 default).vec).length * 8 ≤ 140737488355328 := hde244_0.small
 have hsm247 : ((an14.getD 0 default).evs).length * 96 ≤ 140737488355328 := hde244_1.small
 have hcw248 := hS239.cells hce244 (hrd241.foot (ne_of_lt hi245))
 refine sty rfl rfl (zh (v := .int .i64 ((an14.getD 0 default).kind)) Try.isAgg3 rfl (hcw248.get (j := 0) rfl) ?_)
 have hkn249 : (decide (((an14.getD 0 default).kind) = 3)) = true := by decide +kernel
 refine sty rfl rfl (xh (congrArg Value.bool hkn249) (fun K9 h9 => zO (k := .i64) (a := (an14.getD 0 default).kind) (b := 3) rfl rfl h9) ?_)
 refine st (zG (v := .bool true) rfl rfl ?_)
 refine st (zb (v := .bool true) rfl ?_)
 refine sty rfl rfl (zb (v := v45) rfl ?_)
 have hi250 : 0 < an14.length := (by first | omega | (simp only [zu]; omega))
 refine sty rfl rfl (zl (k := 5) (i := 0) Try.underlying58 Try.sizeOf57 rfl hrd241.sl rfl hi250 ?_)
 refine sty rfl rfl (ZW rfl ?_)
 have hcw252 := hS239.cells hce244 (hrd241.foot (ne_of_lt hi245))
 refine sty rfl rfl (zh (v := .int .i64 ((an14.getD 0 default).dst)) Try.isAgg3 rfl (hcw252.get (j := 2) rfl) ?_)
 have hkn253 : (decide (((an14.getD 0 default).dst) = 1)) = true := by decide +kernel
 refine sty rfl rfl (xh (congrArg Value.bool hkn253) (fun K9 h9 => zO (k := .i64) (a := (an14.getD 0 default).dst) (b := 1) rfl rfl h9) ?_)
 refine st (zG (v := .bool true) rfl rfl ?_)
 refine st (zb (v := .bool true) rfl ?_)
 refine sty rfl rfl (zb (v := v45) rfl ?_)
 have hi254 : 0 < an14.length := (by first | omega | (simp only [zu]; omega))
 refine sty rfl rfl (zl (k := 5) (i := 0) Try.underlying58 Try.sizeOf57 rfl hrd241.sl rfl hi254 ?_)
 refine sty rfl rfl (xo rfl ?_)
 have hcw256 := hS239.cells hce244 (hrd241.foot (ne_of_lt hi245))
 refine sty rfl rfl (zh (v := (zR w194 (sb v45) (so v45 + 0 * 5 + 4))) Try.isAgg22 rfl (hcw256.get (j := 4) rfl) ?_)
 refine sty rfl rfl (zB (n := ((an14.getD 0 default).evs).length) Try.underlying22 rfl hde244_1.sl ?_)
 have hkn257 : (decide (((((an14.getD 0 default).evs).length : Nat) : Int) = 1)) = true := by decide +kernel
 refine sty rfl rfl (xh (congrArg Value.bool hkn257) (fun K9 h9 => zO (k := .i64) (a := ((((an14.getD 0 default).evs).length : Nat) : Int)) (b := 1) rfl rfl h9) ?_)
 refine st (zG (v := .bool true) rfl rfl ?_)
 refine st (zb (v := .bool true) rfl ?_)
 refine sty rfl rfl (zb (v := v82) rfl ?_)
 refine sty rfl rfl (zB (n := an18.length) Try.underlying58 rfl (RdS.base hrd233 hB238).sl ?_)
 have hkn258 : (decide (((an18.length : Nat) : Int) = 1)) = true := by decide +kernel
 refine sty rfl rfl (xh (congrArg Value.bool hkn258) (fun K9 h9 => zO (k := .i64) (a := ((an18.length : Nat) : Int)) (b := 1) rfl rfl h9) ?_)
 refine st (zG (v := .bool true) rfl rfl ?_)
 refine st (zb (v := .bool true) rfl ?_)
 refine sty rfl rfl (zb (v := v82) rfl ?_)
 have hi259 : 0 < an18.length := (by first | omega | (simp only [zu]; omega))
 refine sty rfl rfl (zl (k := 5) (i := 0) Try.underlying58 Try.sizeOf57 rfl (RdS.base hrd233 hB238).sl rfl hi259 ?_)
 refine sty rfl rfl (yF rfl ?_)
 have hi261 : 0 < an18.length := (by first | omega | (simp only [zu]; omega))
 obtain ⟨hce260, hde260_0, hde260_1, hoke260⟩ := (RdS.base hrd233 hB238).msg hi261
 rw [← zo default hi261] at hce260 hde260_0 hde260_1 hoke260
 have hsm262 : ((an18.getD 0 default).vec).length * 8 ≤ 140737488355328 := hde260_0.small
 have hsm263 : ((an18.getD 0 default).evs).length * 96 ≤ 140737488355328 := hde260_1.small
 have hcw264 := hS239.cells hce260 ((RdS.base hrd233 hB238).foot (ne_of_lt hi261))
 refine sty rfl rfl (zh (v := .int .i64 ((an18.getD 0 default).kind)) Try.isAgg3 rfl (hcw264.get (j := 0) rfl) ?_)
 have hkn265 : (decide (((an18.getD 0 default).kind) = 2)) = true := by decide +kernel
 refine sty rfl rfl (xh (congrArg Value.bool hkn265) (fun K9 h9 => zO (k := .i64) (a := (an18.getD 0 default).kind) (b := 2) rfl rfl h9) ?_)
 refine st (zG (v := .bool true) rfl rfl ?_)
 refine st (zb (v := .bool true) rfl ?_)
 refine sty rfl rfl (zb (v := v82) rfl ?_)
 have hi266 : 0 < an18.length := (by first | omega | (simp only [zu]; omega))
 refine sty rfl rfl (zl (k := 5) (i := 0) Try.underlying58 Try.sizeOf57 rfl (RdS.base hrd233 hB238).sl rfl hi266 ?_)
 refine sty rfl rfl (yh rfl ?_)
 have hcw268 := hS239.cells hce260 ((RdS.base hrd233 hB238).foot (ne_of_lt hi261))
 refine sty rfl rfl (zh (v := (zR w194 (sb v82) (so v82 + 0 * 5 + 3))) Try.isAgg34 rfl (hcw268.get (j := 3) rfl) ?_)
 refine sty rfl rfl (zz (k := 1) (parts' := [(0, .int .i64 (1)), (1, .int .i64 (1))]) (c := #[.int .i64 (1), .int .i64 (1)]) Try.underlying34 Try.sizeOf3 Try.zeroValue3 (by decide) rfl (by kernel_rfl) ?_)
 intro w271 b270 hn269
 have hS272 := hS239.new hn269
 have hS273 : Sep G235 w194 ((RowE (α := Int) own 3 (.slice (some ⟨b270, 0, none⟩) 2 2) [1, 1]) :: (SetO b12 2 [evZ, evB]) :: (RowE (α := Ev) own 36 v1 [evZ, evB]) :: Rs) w271 := Sep.blkRow (src := own) (l := [1, 1]) (css := [[.int .i64 (1)], [.int .i64 (1)]]) hS272 rfl ⟨fun _ _ => ⟨rfl, (by decide)⟩, fun _ _ => ⟨rfl, (by decide)⟩, trivial⟩ (by first | decide | (simp only [List.length_cons, List.length_nil]; decide))
 have hr274 := hS273.row (i := 0) rfl
 have hr274s : _ * 8 ≤ _ := hr274.2
 obtain ⟨G275, hA277, hB278, hS279, hk280⟩ := hS273.lend
 have hrd281 := RowE.rd hA277
 have hrd281s : _ * 8 ≤ _ := hrd281.small
 refine sty rfl rfl (zj (f := 27) (vals := [(zR w194 (sb v82) (so v82 + 0 * 5 + 3)), (.slice (some ⟨b270, 0, none⟩) 2 2)]) (cap := []) rfl rfl Try.call27 (yL (a := (an18.getD 0 default).vec) (va := (zR w194 (sb v82) (so v82 + 0 * 5 + 3))) (b := [1, 1]) (vb := (.slice (some ⟨b270, 0, none⟩) 2 2)) (RdS.base hde260_0 hB278) hrd281 hS279) ?_)
 rintro _ w282 ⟨rfl, hS283⟩
 have hS284 := hk280 _ _ hS283
 have hkn285 : (decide (((an18.getD 0 default).vec) = [1, 1])) = true := by decide +kernel
 rw [hkn285]
 refine st (zG (v := .bool true) rfl rfl ?_)
 refine st (zb (v := .bool true) rfl ?_)
 refine sty rfl rfl (zb (v := v119) rfl ?_)
 refine sty rfl rfl (zB (n := an22.length) Try.underlying58 rfl (RdS.base (RdS.base hrd225 hB230) hB238).sl ?_)
 have hkn286 : (decide (((an22.length : Nat) : Int) = 1)) = true := by decide +kernel
 refine sty rfl rfl (xh (congrArg Value.bool hkn286) (fun K9 h9 => zO (k := .i64) (a := ((an22.length : Nat) : Int)) (b := 1) rfl rfl h9) ?_)
 refine st (zG (v := .bool true) rfl rfl ?_)
 refine st (zb (v := .bool true) rfl ?_)
 refine sty rfl rfl (zb (v := v119) rfl ?_)
 have hi287 : 0 < an22.length := (by first | omega | (simp only [zu]; omega))
 refine sty rfl rfl (zl (k := 5) (i := 0) Try.underlying58 Try.sizeOf57 rfl (RdS.base (RdS.base hrd225 hB230) hB238).sl rfl hi287 ?_)
 refine sty rfl rfl (yF rfl ?_)
 have hi289 : 0 < an22.length := (by first | omega | (simp only [zu]; omega))
 obtain ⟨hce288, hde288_0, hde288_1, hoke288⟩ := (RdS.base (RdS.base hrd225 hB230) hB238).msg hi289
 rw [← zo default hi289] at hce288 hde288_0 hde288_1 hoke288
 have hsm290 : ((an22.getD 0 default).vec).length * 8 ≤ 140737488355328 := hde288_0.small
 have hsm291 : ((an22.getD 0 default).evs).length * 96 ≤ 140737488355328 := hde288_1.small
 have hcw292 := hS284.cells hce288 ((RdS.base (RdS.base hrd225 hB230) hB238).foot (ne_of_lt hi289))
 refine sty rfl rfl (zh (v := .int .i64 ((an22.getD 0 default).kind)) Try.isAgg3 rfl (hcw292.get (j := 0) rfl) ?_)
 have hkn293 : (decide (((an22.getD 0 default).kind) = 4)) = true := by decide +kernel
 refine sty rfl rfl (xh (congrArg Value.bool hkn293) (fun K9 h9 => zO (k := .i64) (a := (an22.getD 0 default).kind) (b := 4) rfl rfl h9) ?_)
 refine st (zG (v := .bool true) rfl rfl ?_)
 refine st (zb (v := .bool true) rfl ?_)
 refine sty rfl rfl (zb (v := v156) rfl ?_)
 refine sty rfl rfl (zB (n := an26.length) Try.underlying58 rfl (RdS.base (RdS.base (RdS.base hrd217 hB222) hB230) hB238).sl ?_)
 have hkn294 : (decide (((an26.length : Nat) : Int) = 2)) = true := by decide +kernel
 refine sty rfl rfl (xh (congrArg Value.bool hkn294) (fun K9 h9 => zO (k := .i64) (a := ((an26.length : Nat) : Int)) (b := 2) rfl rfl h9) ?_)
 refine st (zG (v := .bool true) rfl rfl ?_)
 refine st (zb (v := .bool true) rfl ?_)
 refine sty rfl rfl (zb (v := v156) rfl ?_)
 have hi295 : 0 < an26.length := (by first | omega | (simp only [zu]; omega))
 refine sty rfl rfl (zl (k := 5) (i := 0) Try.underlying58 Try.sizeOf57 rfl (RdS.base (RdS.base (RdS.base hrd217 hB222) hB230) hB238).sl rfl hi295 ?_)
 refine sty rfl rfl (yF rfl ?_)
 have hi297 : 0 < an26.length := (by first | omega | (simp only [zu]; omega))
 obtain ⟨hce296, hde296_0, hde296_1, hoke296⟩ := (RdS.base (RdS.base (RdS.base hrd217 hB222) hB230) hB238).msg hi297
 rw [← zo default hi297] at hce296 hde296_0 hde296_1 hoke296
 have hsm298 : ((an26.getD 0 default).vec).length * 8 ≤ 140737488355328 := hde296_0.small
 have hsm299 : ((an26.getD 0 default).evs).length * 96 ≤ 140737488355328 := hde296_1.small
 have hcw300 := hS284.cells hce296 ((RdS.base (RdS.base (RdS.base hrd217 hB222) hB230) hB238).foot (ne_of_lt hi297))
 refine sty rfl rfl (zh (v := .int .i64 ((an26.getD 0 default).kind)) Try.isAgg3 rfl (hcw300.get (j := 0) rfl) ?_)
 have hkn301 : (decide (((an26.getD 0 default).kind) = 3)) = true := by decide +kernel
 refine sty rfl rfl (xh (congrArg Value.bool hkn301) (fun K9 h9 => zO (k := .i64) (a := (an26.getD 0 default).kind) (b := 3) rfl rfl h9) ?_)
 refine st (zG (v := .bool true) rfl rfl ?_)
 refine st (zb (v := .bool true) rfl ?_)
 refine sty rfl rfl (zb (v := v156) rfl ?_)
 have hi302 : 1 < an26.length := (by first | omega | (simp only [zu]; omega))
 refine sty rfl rfl (zl (k := 5) (i := 1) Try.underlying58 Try.sizeOf57 rfl (RdS.base (RdS.base (RdS.base hrd217 hB222) hB230) hB238).sl rfl hi302 ?_)
 refine sty rfl rfl (yF rfl ?_)
 have hi304 : 1 < an26.length := (by first | omega | (simp only [zu]; omega))
 obtain ⟨hce303, hde303_0, hde303_1, hoke303⟩ := (RdS.base (RdS.base (RdS.base hrd217 hB222) hB230) hB238).msg hi304
 rw [← zo default hi304] at hce303 hde303_0 hde303_1 hoke303
 have hsm305 : ((an26.getD 1 default).vec).length * 8 ≤ 140737488355328 := hde303_0.small
 have hsm306 : ((an26.getD 1 default).evs).length * 96 ≤ 140737488355328 := hde303_1.small
 have hcw307 := hS284.cells hce303 ((RdS.base (RdS.base (RdS.base hrd217 hB222) hB230) hB238).foot (ne_of_lt hi304))
 refine sty rfl rfl (zh (v := .int .i64 ((an26.getD 1 default).kind)) Try.isAgg3 rfl (hcw307.get (j := 0) rfl) ?_)
 have hkn308 : (decide (((an26.getD 1 default).kind) = 2)) = true := by decide +kernel
 refine sty rfl rfl (xh (congrArg Value.bool hkn308) (fun K9 h9 => zO (k := .i64) (a := (an26.getD 1 default).kind) (b := 2) rfl rfl h9) ?_)
 refine st (zG (v := .bool true) rfl rfl ?_)
 refine st (zb (v := .bool true) rfl ?_)
 refine sty rfl rfl (zb (v := v193) rfl ?_)
 refine sty rfl rfl (zB (n := an30.length) Try.underlying58 rfl (RdS.base (RdS.base (RdS.base (RdS.base hrd209 hB214) hB222) hB230) hB238).sl ?_)
 have hkn309 : (decide (((an30.length : Nat) : Int) = 0)) = true := by decide +kernel
 refine sty rfl rfl (xh (congrArg Value.bool hkn309) (fun K9 h9 => zO (k := .i64) (a := ((an30.length : Nat) : Int)) (b := 0) rfl rfl h9) ?_)
 refine st (zG (v := .bool true) rfl rfl ?_)
 refine st (zf (v := .bool true) rfl ?_)
 refine zg ?_
 refine zw ?_
 refine zM Try.results39 (show _ = (.bool true : Value) from rfl) ?_
 have hS310 := hk240 _ _ hS284
 have hS311 := hk232 _ _ hS310
 have hS312 := hk224 _ _ hS311
 have hS313 := hk216 _ _ hS312
 have hS314 := hk208 _ _ hS313
 have hS315 : Sep G W Rs w282 := hS314.sel 8 [] (Nat.le_add_left _ _) rfl rfl
 refine ⟨rfl, hS315⟩

end Go.Proofs.Ytgjgmojjeehieaa
end

section
/- Steps of the proofs of this seat: part R8. -/
set_option maxRecDepth 8000
set_option maxHeartbeats 4000000
namespace Go.Proofs.Ytgjgmojjeehieaa
open Go.Proofs Go.RowKit

structure MsgS where
  kind : Int
  frm : Int
  dst : Int
  vv : Value
  ve : Value
  deriving Inhabited
structure MsgS.Ok (e : MsgS) : Prop where
  kind : InR e.kind
  frm : InR e.frm
  dst : InR e.dst
  vv : e.vv.oneCell' = true
  ve : e.ve.oneCell' = true
def MsgS.cells (e : MsgS) : List Value := [.int .i64 e.kind, .int .i64 e.frm, .int .i64 e.dst, e.vv, e.ve]
instance : Rep MsgS where
  k := 5
  rd _ _ cs x := cs = x.cells ∧ x.Ok
  bytes := 72
  bpos := by decide
  kpos := by decide
  len h := by rw [h.1]; rfl
  one h := by rw [h.1]; exact yz ⟨rfl, rfl, rfl, h.2.vv, h.2.ve, trivial⟩
  mono h _ := h
instance : Flat MsgS := ⟨fun h => h⟩
def toN (f t : Int) (m : MsgS) : MsgS := { m with frm := f, dst := t }
def xk (f t : Int) (k : Nat) (l : List MsgS) : List MsgS := (l.take k).map (toN f t) ++ l.drop k
theorem ZS {f t : Int} {k : Nat} {l : List MsgS} : (xk f t k l).length = l.length := by unfold xk; simp; omega
theorem VB {f t : Int} {k : Nat} {l : List MsgS} (h : k = l.length) : xk f t k l = l.map (toN f t) := by subst h; unfold xk; simp
theorem UT {f t : Int} {k : Nat} {l : List MsgS} (h : k < l.length) : (xk f t k l).getD k default = l.getD k default := by
  rw [zo _ (by rw [ZS]; exact h), zo _ h]
  unfold xk
  rw [List.getElem_append_right (by simp; omega)]
  simp only [List.length_map, List.length_take, List.getElem_drop]
  congr 1; omega
theorem Up {f t : Int} {k : Nat} {l : List MsgS} (h : k < l.length) {x : MsgS} (hx : x = toN f t (l.getD k default)) : (xk f t k l).set k x = xk f t (k + 1) l := by
  subst hx
  unfold xk
  rw [List.take_succ_eq_append_getElem h, List.map_append, List.append_assoc, List.set_append_right _ _ (by simp only [List.length_map, List.length_take]; omega), List.drop_eq_getElem_cons h]
  simp only [List.length_map, List.length_take, List.map_cons, List.map_nil, List.singleton_append]
  rw [show k - min k l.length = 0 by omega, List.set_cons_zero, zo _ h]
theorem Uq {f t : Int} {k : Nat} {l : List MsgS} (h : k < l.length) :
    (((xk f t k l).set k { (xk f t k l).getD k default with frm := f }).set k { ((xk f t k l).set k { (xk f t k l).getD k default with frm := f }).getD k default with dst := t }) = xk f t (k + 1) l := by
  rw [List.set_set]
  refine Up h ?_
  rw [zo _ (by rw [List.length_set, ZS]; exact h), List.getElem_set_self, UT h]; rfl
def AnsK (A : List Msg) (X : List MsgS) (E : List Ev) (V : List Int) (ve vv : Value) (f t : Int) : Prop :=
  (A = [] ∧ X = []) ∨ (A = [⟨3, f, t, [], E⟩] ∧ X = [⟨3, f, t, .slice none 0 0, ve⟩]) ∨ (A = [⟨3, f, t, [], E⟩, ⟨2, f, t, V, []⟩] ∧ X = [⟨3, f, t, .slice none 0 0, ve⟩, ⟨2, f, t, vv, .slice none 0 0⟩]) ∨
  (A = [⟨2, f, t, V, []⟩] ∧ X = [⟨2, f, t, vv, .slice none 0 0⟩]) ∨ (A = [⟨4, f, t, V, []⟩] ∧ X = [⟨4, f, t, vv, .slice none 0 0⟩])
theorem WI {G : Nat → Prop} {W w : World} {Rs : List HP} {f : Int} (hf : InR f) {t : Int} (ht : InR t) {vl : Value} {l : List MsgS} (hS0 : Sep G W ((RowE (α := MsgS) own 57 vl l) :: Rs) w) : Ret Try.prog 74 [.int .i64 (f), .int .i64 (t), vl] w (fun r w' => ∃ (v : Value), r = (v : Value) ∧ Sep G W ((RowE (α := MsgS) own 57 v (l.map (toN f t))) :: Rs) w') := by
 refine zq (args := [.int .i64 (f), .int .i64 (t), vl]) Try.func74 rfl rfl ?_
 have hr1 := hS0.row (i := 0) rfl
 have hr1s : _ * 72 ≤ _ := hr1.2
 refine zd ?_
 refine za (by kernel_rfl) (fun _ => ?_)
 refine st (zf (v := (.slice none 0 0)) rfl ?_)
 refine zg ?_
 refine zd ?_
 refine zd ?_
 refine za (by kernel_rfl) (fun _ => ?_)
 refine st (zb (v := vl) rfl ?_)
 refine st (zB (n := l.length) Try.underlying58 rfl hr1.1 ?_)
 refine st (zb (v := .int .i64 (0)) rfl ?_)
 refine zg ?_
 refine zx ?_
 refine yb (fun mq σ wq => ∃ (k : Nat) (ρ : Env), mq = l.length - k ∧ σ = ye ρ [(0, .int .i64 (f)), (1, .int .i64 (t)), (2, vl), (9, .int .i64 ((l.length : Nat) : Int)), (10, .int .i64 ((k : Nat) : Int))] ∧ (k ≤ l.length) ∧ Sep G W ((RowE (α := MsgS) own 57 vl (xk f t k l)) :: Rs) wq) ⟨0, _, rfl, zn ⟨rfl, rfl, rfl, rfl, rfl, trivial⟩, Nat.zero_le _, hS0⟩ ?_
 rintro m3 σ4 w2 ⟨k, ρl1, rfl, rfl, hk, hS5⟩
 have hr6 := hS5.row (i := 0) rfl
 have hr6s : _ * 72 ≤ _ := hr6.2
 have hln9 : (xk f t k l).length = l.length := ZS
 refine zd ?_
 refine za (by kernel_rfl) (fun _ => ?_)
 refine st (zJ (k := .i64) (a := ((k : Nat) : Int)) (b := ((l.length : Nat) : Int)) rfl rfl ?_)
 refine zg ?_
 refine zd ?_
 cases hc7 : decide (((k : Nat) : Int) < ((l.length : Nat) : Int))
 ·skip
  have hc7 := of_decide_eq_false hc7
  refine zk rfl ?_
  refine ya ?_
  refine zQ ?_
  refine zd ?_
  refine za (by kernel_rfl) (fun _ => ?_)
  refine st (zb (v := vl) rfl ?_)
  refine st (zf (v := vl) rfl ?_)
  refine zg ?_
  refine zw ?_
  refine zM Try.results74 (show _ = (vl : Value) from rfl) ?_
  rw [VB (by omega)] at hS5
  refine ⟨vl, rfl, hS5⟩
 ·skip
  have hc7 := of_decide_eq_true hc7
  refine zm rfl ?_
  refine zp ?_
  refine zd ?_
  refine zx ?_
  refine zd ?_
  refine za (by kernel_rfl) (fun _ => ?_)
  refine st (zb (v := .int .i64 ((k : Nat) : Int)) rfl ?_)
  refine st (zf (v := .int .i64 ((k : Nat) : Int)) rfl ?_)
  refine zg ?_
  refine za (by kernel_rfl) (fun _ => ?_)
  refine st (zb (v := vl) rfl ?_)
  refine st (zb (v := .int .i64 ((k : Nat) : Int)) rfl ?_)
  refine st (zb (v := vl) rfl ?_)
  refine st (zb (v := .int .i64 ((k : Nat) : Int)) rfl ?_)
  refine st (zb (v := .int .i64 (f)) rfl ?_)
  refine st (zb (v := .int .i64 (t)) rfl ?_)
  have hi8 : k < (xk f t k l).length := (by first | omega | (simp only [zu]; omega))
  refine st (zl (k := 5) (i := k) Try.underlying58 Try.sizeOf57 rfl hr6.1 rfl hi8 ?_)
  refine st (yI rfl ?_)
  have hS10 : Sep G W ((RowE (α := MsgS) own 57 vl (xk f t k l)) :: Emp :: Rs) w2 := hS5.emp1
  refine stn (xl (α := MsgS) (j := k) (o := 1) (u := .int .i64 (f)) (us := [.int .i64 (f)]) (x1 := ({ ((xk f t k l).getD k default) with frm := f } : MsgS)) hS10 Try.sizeOf3 (by first | omega | (simp only [zu]; omega)) rfl rfl rfl (Nat.le_of_ble_eq_true rfl) (yz ⟨rfl, trivial⟩) (fun _ _ _ hel _ => (by rw [← zo default (by omega)] at hel; obtain ⟨rfl, hok⟩ := hel; exact ⟨rfl, ⟨hok.kind, (show InR (f) from hf), hok.dst, hok.vv, hok.ve⟩⟩)) ?_)
  intro w9 hS11
  have hr12 := hS11.row (i := 0) rfl
  have hr12s : _ * 72 ≤ _ := hr12.2
  have hi13 : k < ((xk f t k l).set k ({ ((xk f t k l).getD k default) with frm := f } : MsgS)).length := (by first | omega | (simp only [zu]; omega))
  refine st (zl (k := 5) (i := k) Try.underlying58 Try.sizeOf57 rfl hr12.1 rfl hi13 ?_)
  refine st (ZW rfl ?_)
  have hS15 : Sep G W ((RowE (α := MsgS) own 57 vl ((xk f t k l).set k ({ ((xk f t k l).getD k default) with frm := f } : MsgS))) :: Emp :: Rs) w9 := hS11.emp1
  refine stn (xl (α := MsgS) (j := k) (o := 2) (u := .int .i64 (t)) (us := [.int .i64 (t)]) (x1 := ({ (((xk f t k l).set k ({ ((xk f t k l).getD k default) with frm := f } : MsgS)).getD k default) with dst := t } : MsgS)) hS15 Try.sizeOf3 (by first | omega | (simp only [zu]; omega)) rfl rfl rfl (Nat.le_of_ble_eq_true rfl) (yz ⟨rfl, trivial⟩) (fun _ _ _ hel _ => (by rw [← zo default (by omega)] at hel; obtain ⟨rfl, hok⟩ := hel; exact ⟨rfl, ⟨hok.kind, hok.frm, (show InR (t) from ht), hok.vv, hok.ve⟩⟩)) ?_)
  intro w14 hS16
  have hr17 := hS16.row (i := 0) rfl
  have hr17s : _ * 72 ≤ _ := hr17.2
  refine zg ?_
  refine za (by kernel_rfl) (fun _ => ?_)
  have hr18 : InR ((k + 1 : Nat) : Int) := by first | omega | (simp only [zu]; omega)
  refine st (zU (r := ((k + 1 : Nat) : Int)) (k := .i64) (a := ((k : Nat) : Int)) (b := 1) rfl rfl (by rw [show (((k : Nat) : Int) + 1 : Int) = ((k + 1 : Nat) : Int) by first | omega | (simp only [zu]; omega)]; exact zH hr18) ?_)
  refine st (zb (v := .int .i64 ((k + 1 : Nat) : Int)) rfl ?_)
  refine zg ?_
  rw [Uq (by omega)] at hS16
  exact ⟨_, by omega, k + 1, _, rfl, zn ⟨rfl, rfl, rfl, rfl, rfl, trivial⟩, by omega, hS16⟩

theorem WZ {G : Nat → Prop} {W w : World} {Rs : List HP} {b : Nat} {n : Nat} {L : List Ev} (hb : (SetO b n L).p W G) {self : Int} (hself : InR self) {m : Msg} {dm0 : Value} (hdm0 : RdS W G dm0 m.vec) {dm1 : Value} (hdm1 : RdS W G dm1 m.evs) (om : m.Ok) {chunk : Int} (hchunk : InR chunk) (hS0 : Sep G W Rs w) (hid : (L.map idE).Nodup) (hsr : Srt L) (hL : L.length ≤ 1000000) : Ret Try.prog 41 [.pointer (some ⟨b, 0, none⟩), .int .i64 (self), .agg (m.cells dm0 dm1).toArray, .int .i64 (chunk)] w (fun r w' => ∃ (v : Value) (ve : Value) (vv : Value) (X : List MsgS) (E : List Ev) (V : List Int), r = (v : Value) ∧ (AnsK (xi n L self m chunk) X E V ve vv self m.frm) ∧ Sep G W ((RowE (α := MsgS) own 57 v X) :: (RowE (α := Ev) own 36 ve E) :: (RowE (α := Int) own 3 vv V) :: Rs) w') := by
 have hdm0s : _ * 8 ≤ _ := hdm0.small
 have hdm1s : _ * 96 ≤ _ := hdm1.small
 refine zq (args := [.pointer (some ⟨b, 0, none⟩), .int .i64 (self), .agg (m.cells dm0 dm1).toArray, .int .i64 (chunk)]) Try.func41 rfl rfl ?_
 obtain ⟨vv1, m2, R3, hb4, hv5, hr6⟩ := SetO.sh hb
 have hsm7 : (zc n L).length * 8 ≤ 140737488355328 := hv5.small
 refine zd ?_
 refine za (by kernel_rfl) (fun _ => ?_)
 refine st (yp (v := .agg (m.cells dm0 dm1).toArray) rfl ?_)
 intro w10 b9 hn8
 have hS11 := hS0.new hn8
 refine st (zf (v := (.slice none 0 0)) rfl ?_)
 refine zg ?_
 refine zd ?_
 refine zd ?_
 refine zF (by kernel_rfl) ?_
 refine st (yF rfl ?_)
 refine st (zh (v := .int .i64 (m.kind)) Try.isAgg3 rfl (zi (hS11.blk (i := 0) rfl) rfl) ?_)
 refine st (yu (k := .i64) (a := m.kind) (b := 1) rfl rfl ?_)
 refine st (zb (v := .bool (!decide (m.kind = 1))) rfl ?_)
 refine stc (V := .pointer (some ⟨b9, 0, none⟩)) rfl rfl (fun hb12 => ?_) ?_
 ·have hl13 := hb12
  have hl13 := yc hl13
  exact yF rfl ⟨rfl, rfl⟩
 refine stc (V := .int .i64 (m.kind)) rfl rfl (fun hb14 => ?_) ?_
 ·have hl15 := hb14
  have hl15 := yc hl15
  exact zh (v := .int .i64 (m.kind)) Try.isAgg3 (show _ = (.pointer (some ⟨b9, 0, none⟩) : Value) from (if_pos hb14)) (zi (hS11.blk (i := 0) rfl) rfl) ⟨rfl, rfl⟩
 refine stc (V := .bool (!decide (m.kind = 2))) rfl rfl (fun hb16 => ?_) ?_
 ·have hl17 := hb16
  have hl17 := yc hl17
  exact yu (k := .i64) (a := m.kind) (b := 2) (show _ = (.int .i64 (m.kind) : Value) from (if_pos hb16)) rfl ⟨rfl, rfl⟩
 refine st (zI (b := !decide (m.kind = 1)) (b' := !decide (m.kind = 2)) rfl (fun hbp => (show _ = (.bool (!decide (m.kind = 2)) : Value) from (if_pos hbp))) ?_)
 refine zg ?_
 cases hc18 : (!decide (m.kind = 1)) && (!decide (m.kind = 2))
 ·skip
  have hc18r := hc18
  try simp only [zr] at hc18
  refine zk rfl ?_
  refine zp ?_
  refine zd ?_
  refine za (by kernel_rfl) (fun _ => ?_)
  refine st (zf (v := (.slice none 0 0)) rfl ?_)
  refine zg ?_
  refine zd ?_
  refine zd ?_
  refine za (by kernel_rfl) (fun _ => ?_)
  refine st (zb (v := .pointer (some ⟨b, 0, none⟩)) rfl ?_)
  refine st (yh rfl ?_)
  refine st (zh (v := dm0) Try.isAgg34 rfl (zi (hS11.blk (i := 0) rfl) rfl) ?_)
  refine st (zb (v := .int .i64 (chunk)) rfl ?_)
  refine st (Zc (k := .i64) (a := chunk) (b := 32) rfl rfl ?_)
  refine st (xE (k := .i64) (a := 1) (b := min chunk 32) rfl rfl ?_)
  refine st (zj (f := 25) (vals := [.pointer (some ⟨b, 0, none⟩), dm0, .int .i64 (max 1 (min chunk 32))]) (cap := []) rfl rfl Try.call25 (YI (l := m.vec) (vl := dm0) (most := max 1 (min chunk 32)) hb hdm0 (by have h1 : InR 1 := (by decide); have h2 : InR (min chunk 32) := (by have h1 : InR chunk := hchunk; have h2 : InR 32 := (by decide); omega); omega) hS11 (hid) (hsr) (hL)) ?_)
  rintro v19 w20 ⟨_, rfl, hS21⟩
  have hr22 := hS21.row (i := 0) rfl
  have hr22s : _ * 96 ≤ _ := hr22.2
  refine st (zf (v := v19) rfl ?_)
  refine zg ?_
  refine zd ?_
  refine za (by kernel_rfl) (fun _ => ?_)
  refine st (zb (v := v19) rfl ?_)
  refine st (zB (n := (zA L m.vec (max 1 (min chunk 32))).length) Try.underlying22 rfl hr22.1 ?_)
  refine st (yy (k := .i64) (a := (((zA L m.vec (max 1 (min chunk 32))).length : Nat) : Int)) (b := 0) rfl rfl ?_)
  refine zg ?_
  cases hc23 : decide (0 < (((zA L m.vec (max 1 (min chunk 32))).length : Nat) : Int))
  ·skip
   have hc23r := hc23
   have hc23 := of_decide_eq_false hc23
   refine zk rfl ?_
   refine zp ?_
   refine zd ?_
   refine za (by kernel_rfl) (fun _ => ?_)
   refine st (zb (v := .pointer (some ⟨b, 0, none⟩)) rfl ?_)
   refine st (zj (f := 26) (vals := [.pointer (some ⟨b, 0, none⟩)]) (cap := []) rfl rfl Try.call26 (xM  hb hS21) ?_)
   rintro v24 w25 ⟨_, rfl, hS26⟩
   have hr27 := hS26.row (i := 0) rfl
   have hr27s : _ * 8 ≤ _ := hr27.2
   refine st (zf (v := v24) rfl ?_)
   refine zg ?_
   refine zd ?_
   refine zd ?_
   refine za (by kernel_rfl) (fun _ => ?_)
   refine st (yh rfl ?_)
   refine st (zh (v := dm0) Try.isAgg34 rfl (zi (hS26.blk (i := 2) rfl) rfl) ?_)
   refine st (zb (v := v24) rfl ?_)
   obtain ⟨G28, hA30, hB31, hS32, hk33⟩ := hS26.lend
   have hrd34 := RowE.rd hA30
   have hrd34s : _ * 8 ≤ _ := hrd34.small
   refine st (zj (f := 73) (vals := [dm0, v24]) (cap := []) rfl rfl Try.call73 (YQ (a := m.vec) (va := dm0) (b := zc n L) (vb := v24) (RdS.base hdm0 hB31) hrd34 hS32) ?_)
   rintro _ w36 ⟨rfl, hin35, hS37⟩
   have hS38 := hk33 _ _ hS37
   refine st (zf (v := .int .i64 ((zK m.vec (zc n L)))) rfl ?_)
   refine zg ?_
   refine zd ?_
   refine zF (by kernel_rfl) ?_
   refine st (yF rfl ?_)
   refine st (zh (v := .int .i64 (m.kind)) Try.isAgg3 rfl (zi (hS38.blk (i := 2) rfl) rfl) ?_)
   refine st (zO (k := .i64) (a := m.kind) (b := 1) rfl rfl ?_)
   refine st (zb (v := .bool (decide (m.kind = 1))) rfl ?_)
   refine stc (V := .int .i64 ((zK m.vec (zc n L)))) rfl rfl (fun hb39 => ?_) ?_
   ·have hl40 := hb39
    have hl40 := of_decide_eq_true hl40
    exact zb (v := .int .i64 ((zK m.vec (zc n L)))) rfl ⟨rfl, rfl⟩
   refine stc (V := .bool (decide ((zK m.vec (zc n L)) = 2))) rfl rfl (fun hb41 => ?_) ?_
   ·have hl42 := hb41
    have hl42 := of_decide_eq_true hl42
    exact zO (k := .i64) (a := (zK m.vec (zc n L))) (b := 2) (show _ = (.int .i64 ((zK m.vec (zc n L))) : Value) from (if_pos hb41)) rfl ⟨rfl, rfl⟩
   refine stc (V := .bool (decide ((zK m.vec (zc n L)) = 2))) rfl rfl (fun hb43 => ?_) ?_
   ·have hl44 := hb43
    have hl44 := of_decide_eq_true hl44
    exact zb (v := .bool (decide ((zK m.vec (zc n L)) = 2))) (show _ = (.bool (decide ((zK m.vec (zc n L)) = 2)) : Value) from (if_pos hb43)) ⟨rfl, rfl⟩
   refine XK (V := .int .i64 ((zK m.vec (zc n L)))) rfl rfl (fun hb45 => ?_) ?_
   ·have hl46 := hb45.1
    have hl46 := of_decide_eq_true hl46
    have hl47 := hb45.2
    have hl47 := of_decide_eq_false hl47
    exact zb (v := .int .i64 ((zK m.vec (zc n L)))) rfl ⟨rfl, rfl⟩
   refine XK (V := .bool (decide ((zK m.vec (zc n L)) = 3))) rfl rfl (fun hb48 => ?_) ?_
   ·have hl49 := hb48.1
    have hl49 := of_decide_eq_true hl49
    have hl50 := hb48.2
    have hl50 := of_decide_eq_false hl50
    exact zO (k := .i64) (a := (zK m.vec (zc n L))) (b := 3) (show _ = (.int .i64 ((zK m.vec (zc n L))) : Value) from (if_pos ⟨hb48.1, hb48.2⟩)) rfl ⟨rfl, rfl⟩
   refine stc (V := .bool ((decide ((zK m.vec (zc n L)) = 2)) || (decide ((zK m.vec (zc n L)) = 3)))) rfl rfl (fun hb51 => ?_) ?_
   ·have hl52 := hb51
    have hl52 := of_decide_eq_true hl52
    exact zD (b := decide ((zK m.vec (zc n L)) = 2)) (b' := decide ((zK m.vec (zc n L)) = 3)) (show _ = (.bool (decide ((zK m.vec (zc n L)) = 2)) : Value) from (if_pos hb51)) (fun hbp => (show _ = (.bool (decide ((zK m.vec (zc n L)) = 3)) : Value) from (if_pos ⟨hb51, hbp⟩))) ⟨rfl, rfl⟩
   refine st (zI (b := decide (m.kind = 1)) (b' := (decide ((zK m.vec (zc n L)) = 2)) || (decide ((zK m.vec (zc n L)) = 3))) rfl (fun hbp => (show _ = (.bool ((decide ((zK m.vec (zc n L)) = 2)) || (decide ((zK m.vec (zc n L)) = 3))) : Value) from (if_pos hbp))) ?_)
   refine zg ?_
   cases hc53 : (decide (m.kind = 1)) && ((decide ((zK m.vec (zc n L)) = 2)) || (decide ((zK m.vec (zc n L)) = 3)))
   ·skip
    have hc53r := hc53
    try simp only [zr] at hc53
    refine zk rfl ?_
    refine zp ?_
    refine zd ?_
    refine zd ?_
    refine za (by kernel_rfl) (fun _ => ?_)
    refine st (zb (v := (.slice none 0 0)) rfl ?_)
    refine st (zB (n := 0) Try.underlying58 rfl (⟨none, 0, rfl, Nat.le_refl _, fun h => absurd h (Nat.lt_irrefl 0)⟩ : IsSl _ 0) ?_)
    refine st (zO (k := .i64) (a := ((0 : Nat) : Int)) (b := 0) rfl rfl ?_)
    have hkn54 : (decide (((0 : Nat) : Int) = 0)) = true := by simp
    rw [hkn54]
    refine zg ?_
    refine zm rfl ?_
    refine za (by kernel_rfl) (fun _ => ?_)
    refine st (zb (v := (.slice none 0 0)) rfl ?_)
    refine st (zb (v := .pointer (some ⟨b, 0, none⟩)) rfl ?_)
    refine st (zb (v := .int .i64 (self)) rfl ?_)
    refine st (yI rfl ?_)
    refine st (zh (v := .int .i64 (m.frm)) Try.isAgg3 rfl (zi (hS38.blk (i := 2) rfl) rfl) ?_)
    refine st (zj (f := 47) (vals := [.pointer (some ⟨b, 0, none⟩), .int .i64 (self), .int .i64 (m.frm)]) (cap := []) rfl rfl Try.call47 (ZY (fr := self) (tt := m.frm) hb hself om.frm hS38) ?_)
    rintro _ w57 ⟨v55, rfl, hmo56, hS58⟩
    have hr59 := hS58.row (i := 0) rfl
    have hr59s : _ * 8 ≤ _ := hr59.2
    refine st (zz (k := 5) (parts' := [(0, .agg ((⟨4, self, m.frm, zc n L, []⟩ : Msg).cells v55 (.slice none 0 0)).toArray)]) (c := ((⟨4, self, m.frm, zc n L, []⟩ : Msg).cells v55 (.slice none 0 0)).toArray) Try.underlying58 Try.sizeOf57 Try.zeroValue57 (by decide) rfl (by kernel_rfl) ?_)
    intro w62 b61 hn60
    have hS63 := hS58.new hn60
    have hS67 : Sep G W ((RowE (α := MsgS) own 57 (.slice none 0 0) ([] : List MsgS)) :: (Blk b61 ((⟨4, self, m.frm, zc n L, []⟩ : Msg).cells v55 (.slice none 0 0)).toArray 57) :: (RowE (α := Int) own 3 v55 (zc n L)) :: (RowE (α := Int) own 3 v24 (zc n L)) :: (RowE (α := Ev) own 36 v19 (zA L m.vec (max 1 (min chunk 32)))) :: (Blk b9 (m.cells dm0 dm1).toArray 57) :: Rs) w62 := hS63.rowNil own 57
    have hr68 := hS67.row (i := 0) rfl
    have hr68s : _ * 72 ≤ _ := hr68.2
    have hbk69 := hS67.blk (i := 1) rfl
    have hS70 : Sep G W ((RowE (α := MsgS) own 57 (.slice none 0 0) ([] : List MsgS)) :: (RowE (α := Int) own 3 v55 (zc n L)) :: (RowE (α := Int) own 3 v24 (zc n L)) :: (RowE (α := Ev) own 36 v19 (zA L m.vec (max 1 (min chunk 32)))) :: (Blk b9 (m.cells dm0 dm1).toArray 57) :: Rs) w62 := hS67.sel 6 [0, 2, 3, 4, 5] (Nat.le_add_left _ _) rfl rfl
    have hS71 : Sep G W ((RowE (α := MsgS) own 57 (.slice none 0 0) ([] : List MsgS)) :: Emp :: (RowE (α := Int) own 3 v55 (zc n L)) :: (RowE (α := Int) own 3 v24 (zc n L)) :: (RowE (α := Ev) own 36 v19 (zA L m.vec (max 1 (min chunk 32)))) :: (Blk b9 (m.cells dm0 dm1).toArray 57) :: Rs) w62 := hS70.emp1
    refine st (zN (src := own) (bytes := 72) (x1 := (⟨4, self, m.frm, v55, .slice none 0 0⟩ : MsgS)) hS71 ZM rfl rfl hbk69 (fun _ _ _ => (show _ from ⟨rfl, ⟨(show InR 4 from by decide), hself, om.frm, hr59.1.one, rfl⟩⟩)) (by first | omega | (simp only [List.length_append, List.length_cons, List.length_nil, List.length_take, List.length_drop]; omega)) rfl ?_)
    intro v65 w64 hS66
    have hS66 : Sep G W ((RowE (α := MsgS) own 57 v65 [(⟨4, self, m.frm, v55, .slice none 0 0⟩ : MsgS)]) :: (RowE (α := Int) own 3 v55 (zc n L)) :: (RowE (α := Int) own 3 v24 (zc n L)) :: (RowE (α := Ev) own 36 v19 (zA L m.vec (max 1 (min chunk 32)))) :: (Blk b9 (m.cells dm0 dm1).toArray 57) :: Rs) w64 := hS66
    have hr72 := hS66.row (i := 0) rfl
    have hr72s : _ * 72 ≤ _ := hr72.2
    refine st (zf (v := v65) rfl ?_)
    refine zg ?_
    refine zd ?_
    refine za (by kernel_rfl) (fun _ => ?_)
    refine st (zb (v := .int .i64 (self)) rfl ?_)
    refine st (yI rfl ?_)
    refine st (zh (v := .int .i64 (m.frm)) Try.isAgg3 rfl (zi (hS66.blk (i := 4) rfl) rfl) ?_)
    refine st (zb (v := v65) rfl ?_)
    refine st (zj (f := 74) (vals := [.int .i64 (self), .int .i64 (m.frm), v65]) (cap := []) rfl rfl Try.call74 (WI (f := self) (t := m.frm) hself om.frm hS66) ?_)
    rintro v73 w74 ⟨_, rfl, hS75⟩
    have hr76 := hS75.row (i := 0) rfl
    have hr76s : _ * 72 ≤ _ := hr76.2
    refine st (zf (v := v73) rfl ?_)
    refine zg ?_
    refine zw ?_
    refine zM Try.results41 (show _ = (v73 : Value) from rfl) ?_
    have hX77 : ([(⟨4, self, m.frm, v55, .slice none 0 0⟩ : MsgS)].map (toN self m.frm)) = [(⟨4, self, m.frm, v55, .slice none 0 0⟩ : MsgS)] := rfl
    rw [hX77] at hS75
    have hS78 : Sep G W ((RowE (α := MsgS) own 57 v73 [(⟨4, self, m.frm, v55, .slice none 0 0⟩ : MsgS)]) :: (RowE (α := Int) own 3 v55 (zc n L)) :: (RowE (α := Int) own 3 v24 (zc n L)) :: (RowE (α := Ev) own 36 v19 (zA L m.vec (max 1 (min chunk 32)))) :: (Blk b9 (m.cells dm0 dm1).toArray 57) :: Rs) w74 := hS75
    have hS79 : Sep G W ((RowE (α := MsgS) own 57 v73 [(⟨4, self, m.frm, v55, .slice none 0 0⟩ : MsgS)]) :: (RowE (α := Ev) own 36 v19 (zA L m.vec (max 1 (min chunk 32)))) :: (RowE (α := Int) own 3 v55 (zc n L)) :: Rs) w74 := hS78.sel 5 [0, 3, 1] (Nat.le_add_left _ _) rfl rfl
    refine ⟨v73, v19, v55, [(⟨4, self, m.frm, v55, .slice none 0 0⟩ : MsgS)], zA L m.vec (max 1 (min chunk 32)), zc n L, rfl, ?_, hS79⟩
    exact .inr (.inr (.inr (.inr ⟨(Uw (n := n) (L := L) (self := self) (c := chunk) hc18r hc23 (show Ze n L m = false from hc53r)).symm, rfl⟩)))
   ·skip
    have hc53r := hc53
    try simp only [zr] at hc53
    refine zm rfl ?_
    refine za (by kernel_rfl) (fun _ => ?_)
    refine st (zb (v := (.slice none 0 0)) rfl ?_)
    refine st (zb (v := v24) rfl ?_)
    have ok80 : Msg.Ok (⟨2, 0, 0, zc n L, []⟩ : Msg) := ⟨(show InR (2) from (by decide)), (show InR (0) from (by decide)), (show InR (0) from (by decide))⟩
    refine st (zW (parts' := [(0, .int .i64 (2)), (3, v24)]) (v := .agg ((⟨2, 0, 0, zc n L, []⟩ : Msg).cells v24 (.slice none 0 0)).toArray) rfl (by obtain ⟨_, _, hv81, _⟩ := hr27.1; rw [show v24 = Value.slice _ _ _ from hv81]; simp [Instr.build, Instr.fill, go_sem, Msg.cells]) ?_)
    refine st (zz (k := 5) (parts' := [(0, .agg ((⟨2, 0, 0, zc n L, []⟩ : Msg).cells v24 (.slice none 0 0)).toArray)]) (c := ((⟨2, 0, 0, zc n L, []⟩ : Msg).cells v24 (.slice none 0 0)).toArray) Try.underlying58 Try.sizeOf57 Try.zeroValue57 (by decide) rfl (by kernel_rfl) ?_)
    intro w84 b83 hn82
    have hS85 := hS38.new hn82
    have hS89 : Sep G W ((RowE (α := MsgS) own 57 (.slice none 0 0) ([] : List MsgS)) :: (Blk b83 ((⟨2, 0, 0, zc n L, []⟩ : Msg).cells v24 (.slice none 0 0)).toArray 57) :: (RowE (α := Int) own 3 v24 (zc n L)) :: (RowE (α := Ev) own 36 v19 (zA L m.vec (max 1 (min chunk 32)))) :: (Blk b9 (m.cells dm0 dm1).toArray 57) :: Rs) w84 := hS85.rowNil own 57
    have hr90 := hS89.row (i := 0) rfl
    have hr90s : _ * 72 ≤ _ := hr90.2
    have hbk91 := hS89.blk (i := 1) rfl
    have hS92 : Sep G W ((RowE (α := MsgS) own 57 (.slice none 0 0) ([] : List MsgS)) :: (RowE (α := Int) own 3 v24 (zc n L)) :: (RowE (α := Ev) own 36 v19 (zA L m.vec (max 1 (min chunk 32)))) :: (Blk b9 (m.cells dm0 dm1).toArray 57) :: Rs) w84 := hS89.sel 5 [0, 2, 3, 4] (Nat.le_add_left _ _) rfl rfl
    have hS93 : Sep G W ((RowE (α := MsgS) own 57 (.slice none 0 0) ([] : List MsgS)) :: Emp :: (RowE (α := Int) own 3 v24 (zc n L)) :: (RowE (α := Ev) own 36 v19 (zA L m.vec (max 1 (min chunk 32)))) :: (Blk b9 (m.cells dm0 dm1).toArray 57) :: Rs) w84 := hS92.emp1
    refine st (zN (src := own) (bytes := 72) (x1 := (⟨2, 0, 0, v24, .slice none 0 0⟩ : MsgS)) hS93 ZM rfl rfl hbk91 (fun _ _ _ => (show _ from ⟨rfl, ⟨(show InR 2 from by decide), (show InR 0 from by decide), (show InR 0 from by decide), hr27.1.one, rfl⟩⟩)) (by first | omega | (simp only [List.length_append, List.length_cons, List.length_nil, List.length_take, List.length_drop]; omega)) rfl ?_)
    intro v87 w86 hS88
    have hS88 : Sep G W ((RowE (α := MsgS) own 57 v87 [(⟨2, 0, 0, v24, .slice none 0 0⟩ : MsgS)]) :: (RowE (α := Int) own 3 v24 (zc n L)) :: (RowE (α := Ev) own 36 v19 (zA L m.vec (max 1 (min chunk 32)))) :: (Blk b9 (m.cells dm0 dm1).toArray 57) :: Rs) w86 := hS88
    have hr94 := hS88.row (i := 0) rfl
    have hr94s : _ * 72 ≤ _ := hr94.2
    refine st (zf (v := v87) rfl ?_)
    refine zg ?_
    refine zd ?_
    refine zd ?_
    refine za (by kernel_rfl) (fun _ => ?_)
    refine st (zb (v := v87) rfl ?_)
    refine st (zB (n := [(⟨2, 0, 0, v24, .slice none 0 0⟩ : MsgS)].length) Try.underlying58 rfl hr94.1 ?_)
    refine st (zO (k := .i64) (a := (([(⟨2, 0, 0, v24, .slice none 0 0⟩ : MsgS)].length : Nat) : Int)) (b := 0) rfl rfl ?_)
    have hkn95 : (decide ((([(⟨2, 0, 0, v24, .slice none 0 0⟩ : MsgS)].length : Nat) : Int) = 0)) = false := by simp
    rw [hkn95]
    refine zg ?_
    refine zk rfl ?_
    refine zp ?_
    refine zd ?_
    refine za (by kernel_rfl) (fun _ => ?_)
    refine st (zb (v := .int .i64 (self)) rfl ?_)
    refine st (yI rfl ?_)
    refine st (zh (v := .int .i64 (m.frm)) Try.isAgg3 rfl (zi (hS88.blk (i := 3) rfl) rfl) ?_)
    refine st (zb (v := v87) rfl ?_)
    refine st (zj (f := 74) (vals := [.int .i64 (self), .int .i64 (m.frm), v87]) (cap := []) rfl rfl Try.call74 (WI (f := self) (t := m.frm) hself om.frm hS88) ?_)
    rintro v96 w97 ⟨_, rfl, hS98⟩
    have hr99 := hS98.row (i := 0) rfl
    have hr99s : _ * 72 ≤ _ := hr99.2
    refine st (zf (v := v96) rfl ?_)
    refine zg ?_
    refine zw ?_
    refine zM Try.results41 (show _ = (v96 : Value) from rfl) ?_
    have hX100 : ([(⟨2, 0, 0, v24, .slice none 0 0⟩ : MsgS)].map (toN self m.frm)) = [(⟨2, self, m.frm, v24, .slice none 0 0⟩ : MsgS)] := rfl
    rw [hX100] at hS98
    have hS101 : Sep G W ((RowE (α := MsgS) own 57 v96 [(⟨2, self, m.frm, v24, .slice none 0 0⟩ : MsgS)]) :: (RowE (α := Int) own 3 v24 (zc n L)) :: (RowE (α := Ev) own 36 v19 (zA L m.vec (max 1 (min chunk 32)))) :: (Blk b9 (m.cells dm0 dm1).toArray 57) :: Rs) w97 := hS98
    have hS102 : Sep G W ((RowE (α := MsgS) own 57 v96 [(⟨2, self, m.frm, v24, .slice none 0 0⟩ : MsgS)]) :: (RowE (α := Ev) own 36 v19 (zA L m.vec (max 1 (min chunk 32)))) :: (RowE (α := Int) own 3 v24 (zc n L)) :: Rs) w97 := hS101.sel 4 [0, 2, 1] (Nat.le_add_left _ _) rfl rfl
    refine ⟨v96, v19, v24, [(⟨2, self, m.frm, v24, .slice none 0 0⟩ : MsgS)], zA L m.vec (max 1 (min chunk 32)), zc n L, rfl, ?_, hS102⟩
    exact .inr (.inr (.inr (.inl ⟨(Ud (n := n) (L := L) (self := self) (c := chunk) hc18r hc23 (show Ze n L m = true from hc53r)).symm, rfl⟩)))
  ·skip
   have hc23r := hc23
   have hc23 := of_decide_eq_true hc23
   refine zm rfl ?_
   refine za (by kernel_rfl) (fun _ => ?_)
   refine st (zb (v := (.slice none 0 0)) rfl ?_)
   refine st (zb (v := v19) rfl ?_)
   have ok103 : Msg.Ok (⟨3, 0, 0, [], zA L m.vec (max 1 (min chunk 32))⟩ : Msg) := ⟨(show InR (3) from (by decide)), (show InR (0) from (by decide)), (show InR (0) from (by decide))⟩
   refine st (zW (parts' := [(0, .int .i64 (3)), (4, v19)]) (v := .agg ((⟨3, 0, 0, [], zA L m.vec (max 1 (min chunk 32))⟩ : Msg).cells (.slice none 0 0) v19).toArray) rfl (by obtain ⟨_, _, hv104, _⟩ := hr22.1; rw [show v19 = Value.slice _ _ _ from hv104]; simp [Instr.build, Instr.fill, go_sem, Msg.cells]) ?_)
   refine st (zz (k := 5) (parts' := [(0, .agg ((⟨3, 0, 0, [], zA L m.vec (max 1 (min chunk 32))⟩ : Msg).cells (.slice none 0 0) v19).toArray)]) (c := ((⟨3, 0, 0, [], zA L m.vec (max 1 (min chunk 32))⟩ : Msg).cells (.slice none 0 0) v19).toArray) Try.underlying58 Try.sizeOf57 Try.zeroValue57 (by decide) rfl (by kernel_rfl) ?_)
   intro w107 b106 hn105
   have hS108 := hS21.new hn105
   have hS112 : Sep G W ((RowE (α := MsgS) own 57 (.slice none 0 0) ([] : List MsgS)) :: (Blk b106 ((⟨3, 0, 0, [], zA L m.vec (max 1 (min chunk 32))⟩ : Msg).cells (.slice none 0 0) v19).toArray 57) :: (RowE (α := Ev) own 36 v19 (zA L m.vec (max 1 (min chunk 32)))) :: (Blk b9 (m.cells dm0 dm1).toArray 57) :: Rs) w107 := hS108.rowNil own 57
   have hr113 := hS112.row (i := 0) rfl
   have hr113s : _ * 72 ≤ _ := hr113.2
   have hbk114 := hS112.blk (i := 1) rfl
   have hS115 : Sep G W ((RowE (α := MsgS) own 57 (.slice none 0 0) ([] : List MsgS)) :: (RowE (α := Ev) own 36 v19 (zA L m.vec (max 1 (min chunk 32)))) :: (Blk b9 (m.cells dm0 dm1).toArray 57) :: Rs) w107 := hS112.sel 4 [0, 2, 3] (Nat.le_add_left _ _) rfl rfl
   have hS116 : Sep G W ((RowE (α := MsgS) own 57 (.slice none 0 0) ([] : List MsgS)) :: Emp :: (RowE (α := Ev) own 36 v19 (zA L m.vec (max 1 (min chunk 32)))) :: (Blk b9 (m.cells dm0 dm1).toArray 57) :: Rs) w107 := hS115.emp1
   refine st (zN (src := own) (bytes := 72) (x1 := (⟨3, 0, 0, .slice none 0 0, v19⟩ : MsgS)) hS116 ZM rfl rfl hbk114 (fun _ _ _ => (show _ from ⟨rfl, ⟨(show InR 3 from by decide), (show InR 0 from by decide), (show InR 0 from by decide), rfl, hr22.1.one⟩⟩)) (by first | omega | (simp only [List.length_append, List.length_cons, List.length_nil, List.length_take, List.length_drop]; omega)) rfl ?_)
   intro v110 w109 hS111
   have hS111 : Sep G W ((RowE (α := MsgS) own 57 v110 [(⟨3, 0, 0, .slice none 0 0, v19⟩ : MsgS)]) :: (RowE (α := Ev) own 36 v19 (zA L m.vec (max 1 (min chunk 32)))) :: (Blk b9 (m.cells dm0 dm1).toArray 57) :: Rs) w109 := hS111
   have hr117 := hS111.row (i := 0) rfl
   have hr117s : _ * 72 ≤ _ := hr117.2
   refine st (zf (v := v110) rfl ?_)
   refine zg ?_
   refine zd ?_
   refine za (by kernel_rfl) (fun _ => ?_)
   refine st (zb (v := .pointer (some ⟨b, 0, none⟩)) rfl ?_)
   refine st (zj (f := 26) (vals := [.pointer (some ⟨b, 0, none⟩)]) (cap := []) rfl rfl Try.call26 (xM  hb hS111) ?_)
   rintro v118 w119 ⟨_, rfl, hS120⟩
   have hr121 := hS120.row (i := 0) rfl
   have hr121s : _ * 8 ≤ _ := hr121.2
   refine st (zf (v := v118) rfl ?_)
   refine zg ?_
   refine zd ?_
   refine zd ?_
   refine za (by kernel_rfl) (fun _ => ?_)
   refine st (yh rfl ?_)
   refine st (zh (v := dm0) Try.isAgg34 rfl (zi (hS120.blk (i := 3) rfl) rfl) ?_)
   refine st (zb (v := v118) rfl ?_)
   obtain ⟨G122, hA124, hB125, hS126, hk127⟩ := hS120.lend
   have hrd128 := RowE.rd hA124
   have hrd128s : _ * 8 ≤ _ := hrd128.small
   refine st (zj (f := 73) (vals := [dm0, v118]) (cap := []) rfl rfl Try.call73 (YQ (a := m.vec) (va := dm0) (b := zc n L) (vb := v118) (RdS.base hdm0 hB125) hrd128 hS126) ?_)
   rintro _ w130 ⟨rfl, hin129, hS131⟩
   have hS132 := hk127 _ _ hS131
   refine st (zf (v := .int .i64 ((zK m.vec (zc n L)))) rfl ?_)
   refine zg ?_
   refine zd ?_
   refine zF (by kernel_rfl) ?_
   refine st (yF rfl ?_)
   refine st (zh (v := .int .i64 (m.kind)) Try.isAgg3 rfl (zi (hS132.blk (i := 3) rfl) rfl) ?_)
   refine st (zO (k := .i64) (a := m.kind) (b := 1) rfl rfl ?_)
   refine st (zb (v := .bool (decide (m.kind = 1))) rfl ?_)
   refine stc (V := .int .i64 ((zK m.vec (zc n L)))) rfl rfl (fun hb133 => ?_) ?_
   ·have hl134 := hb133
    have hl134 := of_decide_eq_true hl134
    exact zb (v := .int .i64 ((zK m.vec (zc n L)))) rfl ⟨rfl, rfl⟩
   refine stc (V := .bool (decide ((zK m.vec (zc n L)) = 2))) rfl rfl (fun hb135 => ?_) ?_
   ·have hl136 := hb135
    have hl136 := of_decide_eq_true hl136
    exact zO (k := .i64) (a := (zK m.vec (zc n L))) (b := 2) (show _ = (.int .i64 ((zK m.vec (zc n L))) : Value) from (if_pos hb135)) rfl ⟨rfl, rfl⟩
   refine stc (V := .bool (decide ((zK m.vec (zc n L)) = 2))) rfl rfl (fun hb137 => ?_) ?_
   ·have hl138 := hb137
    have hl138 := of_decide_eq_true hl138
    exact zb (v := .bool (decide ((zK m.vec (zc n L)) = 2))) (show _ = (.bool (decide ((zK m.vec (zc n L)) = 2)) : Value) from (if_pos hb137)) ⟨rfl, rfl⟩
   refine XK (V := .int .i64 ((zK m.vec (zc n L)))) rfl rfl (fun hb139 => ?_) ?_
   ·have hl140 := hb139.1
    have hl140 := of_decide_eq_true hl140
    have hl141 := hb139.2
    have hl141 := of_decide_eq_false hl141
    exact zb (v := .int .i64 ((zK m.vec (zc n L)))) rfl ⟨rfl, rfl⟩
   refine XK (V := .bool (decide ((zK m.vec (zc n L)) = 3))) rfl rfl (fun hb142 => ?_) ?_
   ·have hl143 := hb142.1
    have hl143 := of_decide_eq_true hl143
    have hl144 := hb142.2
    have hl144 := of_decide_eq_false hl144
    exact zO (k := .i64) (a := (zK m.vec (zc n L))) (b := 3) (show _ = (.int .i64 ((zK m.vec (zc n L))) : Value) from (if_pos ⟨hb142.1, hb142.2⟩)) rfl ⟨rfl, rfl⟩
   refine stc (V := .bool ((decide ((zK m.vec (zc n L)) = 2)) || (decide ((zK m.vec (zc n L)) = 3)))) rfl rfl (fun hb145 => ?_) ?_
   ·have hl146 := hb145
    have hl146 := of_decide_eq_true hl146
    exact zD (b := decide ((zK m.vec (zc n L)) = 2)) (b' := decide ((zK m.vec (zc n L)) = 3)) (show _ = (.bool (decide ((zK m.vec (zc n L)) = 2)) : Value) from (if_pos hb145)) (fun hbp => (show _ = (.bool (decide ((zK m.vec (zc n L)) = 3)) : Value) from (if_pos ⟨hb145, hbp⟩))) ⟨rfl, rfl⟩
   refine st (zI (b := decide (m.kind = 1)) (b' := (decide ((zK m.vec (zc n L)) = 2)) || (decide ((zK m.vec (zc n L)) = 3))) rfl (fun hbp => (show _ = (.bool ((decide ((zK m.vec (zc n L)) = 2)) || (decide ((zK m.vec (zc n L)) = 3))) : Value) from (if_pos hbp))) ?_)
   refine zg ?_
   cases hc147 : (decide (m.kind = 1)) && ((decide ((zK m.vec (zc n L)) = 2)) || (decide ((zK m.vec (zc n L)) = 3)))
   ·skip
    have hc147r := hc147
    try simp only [zr] at hc147
    refine zk rfl ?_
    refine zp ?_
    refine zd ?_
    refine zd ?_
    refine za (by kernel_rfl) (fun _ => ?_)
    refine st (zb (v := v110) rfl ?_)
    refine st (zB (n := [(⟨3, 0, 0, .slice none 0 0, v19⟩ : MsgS)].length) Try.underlying58 rfl hr117.1 ?_)
    refine st (zO (k := .i64) (a := (([(⟨3, 0, 0, .slice none 0 0, v19⟩ : MsgS)].length : Nat) : Int)) (b := 0) rfl rfl ?_)
    have hkn148 : (decide ((([(⟨3, 0, 0, .slice none 0 0, v19⟩ : MsgS)].length : Nat) : Int) = 0)) = false := by simp
    rw [hkn148]
    refine zg ?_
    refine zk rfl ?_
    refine zp ?_
    refine zd ?_
    refine za (by kernel_rfl) (fun _ => ?_)
    refine st (zb (v := .int .i64 (self)) rfl ?_)
    refine st (yI rfl ?_)
    refine st (zh (v := .int .i64 (m.frm)) Try.isAgg3 rfl (zi (hS132.blk (i := 3) rfl) rfl) ?_)
    refine st (zb (v := v110) rfl ?_)
    have hS149 := hS132.mv1
    refine st (zj (f := 74) (vals := [.int .i64 (self), .int .i64 (m.frm), v110]) (cap := []) rfl rfl Try.call74 (WI (f := self) (t := m.frm) hself om.frm hS149) ?_)
    rintro v150 w151 ⟨_, rfl, hS152⟩
    have hr153 := hS152.row (i := 0) rfl
    have hr153s : _ * 72 ≤ _ := hr153.2
    refine st (zf (v := v150) rfl ?_)
    refine zg ?_
    refine zw ?_
    refine zM Try.results41 (show _ = (v150 : Value) from rfl) ?_
    have hX154 : ([(⟨3, 0, 0, .slice none 0 0, v19⟩ : MsgS)].map (toN self m.frm)) = [(⟨3, self, m.frm, .slice none 0 0, v19⟩ : MsgS)] := rfl
    rw [hX154] at hS152
    have hS155 : Sep G W ((RowE (α := MsgS) own 57 v150 [(⟨3, self, m.frm, .slice none 0 0, v19⟩ : MsgS)]) :: (RowE (α := Int) own 3 v118 (zc n L)) :: (RowE (α := Ev) own 36 v19 (zA L m.vec (max 1 (min chunk 32)))) :: (Blk b9 (m.cells dm0 dm1).toArray 57) :: Rs) w151 := hS152
    have hS156 : Sep G W ((RowE (α := MsgS) own 57 v150 [(⟨3, self, m.frm, .slice none 0 0, v19⟩ : MsgS)]) :: (RowE (α := Ev) own 36 v19 (zA L m.vec (max 1 (min chunk 32)))) :: (RowE (α := Int) own 3 v118 (zc n L)) :: Rs) w151 := hS155.sel 4 [0, 2, 1] (Nat.le_add_left _ _) rfl rfl
    refine ⟨v150, v19, v118, [(⟨3, self, m.frm, .slice none 0 0, v19⟩ : MsgS)], zA L m.vec (max 1 (min chunk 32)), zc n L, rfl, ?_, hS156⟩
    exact .inr (.inl ⟨(Vx (n := n) (L := L) (self := self) (c := chunk) hc18r hc23 (show Ze n L m = false from hc147r)).symm, rfl⟩)
   ·skip
    have hc147r := hc147
    try simp only [zr] at hc147
    refine zm rfl ?_
    refine za (by kernel_rfl) (fun _ => ?_)
    refine st (zb (v := v110) rfl ?_)
    refine st (zb (v := v118) rfl ?_)
    have ok157 : Msg.Ok (⟨2, 0, 0, zc n L, []⟩ : Msg) := ⟨(show InR (2) from (by decide)), (show InR (0) from (by decide)), (show InR (0) from (by decide))⟩
    refine st (zW (parts' := [(0, .int .i64 (2)), (3, v118)]) (v := .agg ((⟨2, 0, 0, zc n L, []⟩ : Msg).cells v118 (.slice none 0 0)).toArray) rfl (by obtain ⟨_, _, hv158, _⟩ := hr121.1; rw [show v118 = Value.slice _ _ _ from hv158]; simp [Instr.build, Instr.fill, go_sem, Msg.cells]) ?_)
    refine st (zz (k := 5) (parts' := [(0, .agg ((⟨2, 0, 0, zc n L, []⟩ : Msg).cells v118 (.slice none 0 0)).toArray)]) (c := ((⟨2, 0, 0, zc n L, []⟩ : Msg).cells v118 (.slice none 0 0)).toArray) Try.underlying58 Try.sizeOf57 Try.zeroValue57 (by decide) rfl (by kernel_rfl) ?_)
    intro w161 b160 hn159
    have hS162 := hS132.new hn159
    have hbk166 := hS162.blk (i := 0) rfl
    have hS167 : Sep G W ((RowE (α := MsgS) own 57 v110 [(⟨3, 0, 0, .slice none 0 0, v19⟩ : MsgS)]) :: (RowE (α := Int) own 3 v118 (zc n L)) :: (RowE (α := Ev) own 36 v19 (zA L m.vec (max 1 (min chunk 32)))) :: (Blk b9 (m.cells dm0 dm1).toArray 57) :: Rs) w161 := hS162.sel 5 [2, 1, 3, 4] (Nat.le_add_left _ _) rfl rfl
    have hS168 : Sep G W ((RowE (α := MsgS) own 57 v110 [(⟨3, 0, 0, .slice none 0 0, v19⟩ : MsgS)]) :: Emp :: (RowE (α := Int) own 3 v118 (zc n L)) :: (RowE (α := Ev) own 36 v19 (zA L m.vec (max 1 (min chunk 32)))) :: (Blk b9 (m.cells dm0 dm1).toArray 57) :: Rs) w161 := hS167.emp1
    refine st (zN (src := own) (bytes := 72) (x1 := (⟨2, 0, 0, v118, .slice none 0 0⟩ : MsgS)) hS168 ZM rfl rfl hbk166 (fun _ _ _ => (show _ from ⟨rfl, ⟨(show InR 2 from by decide), (show InR 0 from by decide), (show InR 0 from by decide), hr121.1.one, rfl⟩⟩)) (by first | (simp only [List.length_cons, List.length_nil]; decide) | omega) rfl ?_)
    intro v164 w163 hS165
    have hr169 := hS165.row (i := 0) rfl
    have hr169s : _ * 72 ≤ _ := hr169.2
    refine st (zf (v := v164) rfl ?_)
    refine zg ?_
    refine zd ?_
    refine zd ?_
    refine za (by kernel_rfl) (fun _ => ?_)
    refine st (zb (v := v164) rfl ?_)
    refine st (zB (n := ([(⟨3, 0, 0, .slice none 0 0, v19⟩ : MsgS)] ++ [(⟨2, 0, 0, v118, .slice none 0 0⟩ : MsgS)]).length) Try.underlying58 rfl hr169.1 ?_)
    refine st (zO (k := .i64) (a := ((([(⟨3, 0, 0, .slice none 0 0, v19⟩ : MsgS)] ++ [(⟨2, 0, 0, v118, .slice none 0 0⟩ : MsgS)]).length : Nat) : Int)) (b := 0) rfl rfl ?_)
    have hkn170 : (decide (((([(⟨3, 0, 0, .slice none 0 0, v19⟩ : MsgS)] ++ [(⟨2, 0, 0, v118, .slice none 0 0⟩ : MsgS)]).length : Nat) : Int) = 0)) = false := by simp
    rw [hkn170]
    refine zg ?_
    refine zk rfl ?_
    refine zp ?_
    refine zd ?_
    refine za (by kernel_rfl) (fun _ => ?_)
    refine st (zb (v := .int .i64 (self)) rfl ?_)
    refine st (yI rfl ?_)
    refine st (zh (v := .int .i64 (m.frm)) Try.isAgg3 rfl (zi (hS165.blk (i := 3) rfl) rfl) ?_)
    refine st (zb (v := v164) rfl ?_)
    refine st (zj (f := 74) (vals := [.int .i64 (self), .int .i64 (m.frm), v164]) (cap := []) rfl rfl Try.call74 (WI (f := self) (t := m.frm) hself om.frm hS165) ?_)
    rintro v171 w172 ⟨_, rfl, hS173⟩
    have hr174 := hS173.row (i := 0) rfl
    have hr174s : _ * 72 ≤ _ := hr174.2
    refine st (zf (v := v171) rfl ?_)
    refine zg ?_
    refine zw ?_
    refine zM Try.results41 (show _ = (v171 : Value) from rfl) ?_
    have hX175 : (([(⟨3, 0, 0, .slice none 0 0, v19⟩ : MsgS)] ++ [(⟨2, 0, 0, v118, .slice none 0 0⟩ : MsgS)]).map (toN self m.frm)) = [(⟨3, self, m.frm, .slice none 0 0, v19⟩ : MsgS), (⟨2, self, m.frm, v118, .slice none 0 0⟩ : MsgS)] := rfl
    rw [hX175] at hS173
    have hS176 : Sep G W ((RowE (α := MsgS) own 57 v171 [(⟨3, self, m.frm, .slice none 0 0, v19⟩ : MsgS), (⟨2, self, m.frm, v118, .slice none 0 0⟩ : MsgS)]) :: (RowE (α := Int) own 3 v118 (zc n L)) :: (RowE (α := Ev) own 36 v19 (zA L m.vec (max 1 (min chunk 32)))) :: (Blk b9 (m.cells dm0 dm1).toArray 57) :: Rs) w172 := hS173
    have hS177 : Sep G W ((RowE (α := MsgS) own 57 v171 [(⟨3, self, m.frm, .slice none 0 0, v19⟩ : MsgS), (⟨2, self, m.frm, v118, .slice none 0 0⟩ : MsgS)]) :: (RowE (α := Ev) own 36 v19 (zA L m.vec (max 1 (min chunk 32)))) :: (RowE (α := Int) own 3 v118 (zc n L)) :: Rs) w172 := hS176.sel 4 [0, 2, 1] (Nat.le_add_left _ _) rfl rfl
    refine ⟨v171, v19, v118, [(⟨3, self, m.frm, .slice none 0 0, v19⟩ : MsgS), (⟨2, self, m.frm, v118, .slice none 0 0⟩ : MsgS)], zA L m.vec (max 1 (min chunk 32)), zc n L, rfl, ?_, hS177⟩
    exact .inr (.inr (.inl ⟨(VY (n := n) (L := L) (self := self) (c := chunk) hc18r hc23 (show Ze n L m = true from hc147r)).symm, rfl⟩))
 ·skip
  have hc18r := hc18
  try simp only [zr] at hc18
  refine zm rfl ?_
  refine zd ?_
  refine za (by kernel_rfl) (fun _ => ?_)
  refine st (zf (v := (.slice none 0 0)) rfl ?_)
  refine zg ?_
  refine zw ?_
  refine zM Try.results41 (show _ = ((.slice none 0 0) : Value) from rfl) ?_
  have hS178 : Sep G W ((RowE (α := MsgS) own 57 (.slice none 0 0) ([] : List MsgS)) :: (Blk b9 (m.cells dm0 dm1).toArray 57) :: Rs) w10 := hS11.rowNil own 57
  have hS179 : Sep G W ((RowE (α := Ev) own 36 (.slice none 0 0) ([] : List Ev)) :: (RowE (α := MsgS) own 57 (.slice none 0 0) ([] : List MsgS)) :: (Blk b9 (m.cells dm0 dm1).toArray 57) :: Rs) w10 := hS178.rowNil own 36
  have hS180 : Sep G W ((RowE (α := Int) own 3 (.slice none 0 0) ([] : List Int)) :: (RowE (α := Ev) own 36 (.slice none 0 0) ([] : List Ev)) :: (RowE (α := MsgS) own 57 (.slice none 0 0) ([] : List MsgS)) :: (Blk b9 (m.cells dm0 dm1).toArray 57) :: Rs) w10 := hS179.rowNil own 3
  have hS181 : Sep G W ((RowE (α := MsgS) own 57 (.slice none 0 0) ([] : List MsgS)) :: (RowE (α := Ev) own 36 (.slice none 0 0) ([] : List Ev)) :: (RowE (α := Int) own 3 (.slice none 0 0) ([] : List Int)) :: Rs) w10 := hS180.sel 4 [2, 1, 0] (Nat.le_add_left _ _) rfl rfl
  refine ⟨(.slice none 0 0), (.slice none 0 0), (.slice none 0 0), ([] : List MsgS), ([] : List Ev), ([] : List Int), rfl, ?_, hS181⟩
  exact .inl ⟨(VD (n := n) (L := L) (self := self) (c := chunk) hc18r).symm, rfl⟩

theorem Xi {G : Nat → Prop} {W w : World} {Rs : List HP} {vl : Value} {l : List Ev} (hl : RdS W G vl l) (hS0 : Sep G W Rs w) : Ret Try.prog 75 [vl] w (fun r w' => ∃ (v : Value), r = (v : Value) ∧ Sep G W ((RowE (α := Ev) own 36 v l) :: Rs) w') := by
 have hls : _ * 96 ≤ _ := hl.small
 refine zq (args := [vl]) Try.func75 rfl rfl ?_
 refine zd ?_
 refine za (by kernel_rfl) (fun _ => ?_)
 refine st (zf (v := (.slice none 0 0)) rfl ?_)
 refine zg ?_
 refine zd ?_
 refine za (by kernel_rfl) (fun _ => ?_)
 refine st (zf (v := (.slice none 0 0)) rfl ?_)
 refine zg ?_
 refine zd ?_
 refine zd ?_
 refine za (by kernel_rfl) (fun _ => ?_)
 refine st (zf (v := .int .i64 (0)) rfl ?_)
 refine zg ?_
 refine zx ?_
 have hS1 : Sep G W ((RowE (α := Ev) own 36 (.slice none 0 0) ([] : List Ev)) :: Rs) w := hS0.rowNil own 36
 refine yb (fun mq σ wq => ∃ (k : Nat) (vo : Value) (ρ : Env), mq = l.length - k ∧ σ = ye ρ [(0, vl), (4, .int .i64 ((k : Nat) : Int)), (3, vo)] ∧ (k ≤ l.length) ∧ Sep G W ((RowE (α := Ev) own 36 vo (l.take k)) :: Rs) wq) ⟨0, (.slice none 0 0), _, rfl, zn ⟨rfl, rfl, rfl, trivial⟩, Nat.zero_le _, hS1⟩ ?_
 rintro m3 σ4 w2 ⟨k, vo, ρl1, rfl, rfl, hkk, hS5⟩
 have hr6 := hS5.row (i := 0) rfl
 have hr6s : _ * 96 ≤ _ := hr6.2
 refine zd ?_
 refine zd ?_
 refine za (by kernel_rfl) (fun _ => ?_)
 refine st (zb (v := .int .i64 ((k : Nat) : Int)) rfl ?_)
 refine st (zb (v := vl) rfl ?_)
 refine st (zB (n := l.length) Try.underlying22 rfl hl.sl ?_)
 refine st (zJ (k := .i64) (a := ((k : Nat) : Int)) (b := ((l.length : Nat) : Int)) rfl rfl ?_)
 refine zg ?_
 cases hc7 : decide (((k : Nat) : Int) < ((l.length : Nat) : Int))
 ·skip
  have hc7 := of_decide_eq_false hc7
  refine zk rfl ?_
  refine ya ?_
  refine zQ ?_
  refine zd ?_
  refine za (by kernel_rfl) (fun _ => ?_)
  refine st (zb (v := vo) rfl ?_)
  refine st (zf (v := vo) rfl ?_)
  refine zg ?_
  refine zw ?_
  refine zM Try.results75 (show _ = (vo : Value) from rfl) ?_
  have hk9 : k = l.length := by omega
  rw [hk9, List.take_length] at hS5
  refine ⟨vo, rfl, hS5⟩
 ·skip
  have hc7 := of_decide_eq_true hc7
  refine zm rfl ?_
  refine zp ?_
  refine zd ?_
  refine zx ?_
  refine za (by kernel_rfl) (fun _ => ?_)
  refine st (zb (v := vo) rfl ?_)
  refine st (zb (v := vl) rfl ?_)
  refine st (zb (v := .int .i64 ((k : Nat) : Int)) rfl ?_)
  have hi8 : k < l.length := (by first | omega | (simp only [zu]; omega))
  refine st (zl (k := 10) (i := k) Try.underlying22 Try.sizeOf36 rfl hl.sl rfl hi8 ?_)
  have hi10 : k < l.length := (by first | omega | (simp only [zu]; omega))
  obtain ⟨hce9, hde9_0, hoke9⟩ := hl.ev hi10
  rw [← zo default hi10] at hce9 hde9_0 hoke9
  have hsm11 : ((l.getD k default).deps).length * 8 ≤ 140737488355328 := hde9_0.small
  have hcw12 := hS5.cells hce9 (hl.foot (ne_of_lt hi10))
  refine st (zv (k := 10) Try.isAgg36 Try.sizeOf36 rfl rfl hcw12 ?_)
  refine st (zj (f := 35) (vals := [.agg ((l.getD k default).cells (zR W (sb vl) (so vl + k * 10 + 3))).toArray]) (cap := []) rfl rfl Try.call35 (yN (e := (l.getD k default)) hde9_0 hoke9 hS5) ?_)
  rintro _ w14 ⟨v13, rfl, hS15⟩
  have hr16 := hS15.row (i := 0) rfl
  have hr16s : _ * 8 ≤ _ := hr16.2
  refine st (zz (k := 10) (parts' := [(0, .agg ((l.getD k default).cells v13).toArray)]) (c := ((l.getD k default).cells v13).toArray) Try.underlying22 Try.sizeOf36 Try.zeroValue36 (by decide) rfl (by kernel_rfl) ?_)
  intro w19 b18 hn17
  have hS20 := hS15.new hn17
  have hbk24 := hS20.blk (i := 0) rfl
  have hS25 : Sep G W ((RowE (α := Ev) own 36 vo (l.take k)) :: (RowE (α := Int) own 3 v13 ((l.getD k default).deps)) :: Rs) w19 := hS20.sel 3 [2, 1] (Nat.le_add_left _ _) rfl rfl
  refine st (zN (src := own) (bytes := 96) (x1 := (l.getD k default)) hS25 Xa rfl rfl hbk24 (fun _ _ hN => ⟨_, rfl, RowE.soft hN, hoke9⟩) (by first | omega | (simp only [List.length_append, List.length_cons, List.length_nil, List.length_take, List.length_drop]; omega)) rfl ?_)
  intro v22 w21 hS23
  have hr26 := hS23.row (i := 0) rfl
  have hr26s : _ * 96 ≤ _ := hr26.2
  refine st (zf (v := v22) rfl ?_)
  refine zg ?_
  refine za (by kernel_rfl) (fun _ => ?_)
  refine st (zb (v := .int .i64 ((k : Nat) : Int)) rfl ?_)
  have hr27 : InR ((k + 1 : Nat) : Int) := by first | omega | (simp only [zu]; omega)
  refine st (zU (r := ((k + 1 : Nat) : Int)) (k := .i64) (a := ((k : Nat) : Int)) (b := 1) rfl rfl (by rw [show (((k : Nat) : Int) + 1 : Int) = ((k + 1 : Nat) : Int) by first | omega | (simp only [zu]; omega)]; exact zH hr27) ?_)
  refine st (zf (v := .int .i64 ((k + 1 : Nat) : Int)) rfl ?_)
  refine zg ?_
  have hL28 : (l.take (k + 1)) = (l.take k) ++ [(l.getD k default)] := (List.take_getD (by omega))
  rw [← hL28] at hS23
  exact ⟨_, by omega, k + 1, v22, _, rfl, zn ⟨rfl, rfl, rfl, trivial⟩, by omega, hS23⟩

theorem Vk {G : Nat → Prop} {W w : World} {Rs : List HP} {m : Msg} {dm0 : Value} (hdm0 : RdS W G dm0 m.vec) {dm1 : Value} (hdm1 : RdS W G dm1 m.evs) (om : m.Ok) (hS0 : Sep G W Rs w) : Ret Try.prog 42 [.agg (m.cells dm0 dm1).toArray] w (fun r w' => ∃ (v0 : Value) (v1 : Value), r = (.agg (m.cells v0 v1).toArray : Value) ∧ Sep G W ((RowE (α := Int) own 3 v0 m.vec) :: (RowE (α := Ev) own 36 v1 m.evs) :: Rs) w') := by
 have hdm0s : _ * 8 ≤ _ := hdm0.small
 have hdm1s : _ * 96 ≤ _ := hdm1.small
 refine zq (args := [.agg (m.cells dm0 dm1).toArray]) Try.func42 rfl rfl ?_
 refine zd ?_
 refine za (by kernel_rfl) (fun _ => ?_)
 refine st (yp (v := .agg (m.cells dm0 dm1).toArray) rfl ?_)
 intro w3 b2 hn1
 have hS4 := hS0.new hn1
 refine st (zX Try.zeroValue57 ?_)
 intro w7 b6 hn5
 have hS8 := hS4.new hn5
 refine zg ?_
 refine zd ?_
 refine za (by kernel_rfl) (fun _ => ?_)
 refine st (yh rfl ?_)
 refine st (zh (v := dm0) Try.isAgg34 rfl (zi (hS8.blk (i := 1) rfl) rfl) ?_)
 refine st (zj (f := 62) (vals := [dm0]) (cap := []) rfl rfl Try.call62 (Yj (l := m.vec) (vl := dm0) hdm0 hS8) ?_)
 rintro v9 w10 ⟨_, rfl, hS11⟩
 have hr12 := hS11.row (i := 0) rfl
 have hr12s : _ * 8 ≤ _ := hr12.2
 refine st (yh rfl ?_)
 refine stn (yZ (v := v9) (c := [.int .i64 (m.kind), .int .i64 (m.frm), .int .i64 (m.dst), dm0, dm1]) (c' := [.int .i64 (m.kind), .int .i64 (m.frm), .int .i64 (m.dst), v9, dm1]) Try.sizeOf34 rfl rfl (hS11.blk (i := 2) rfl) hr12.1.one rfl rfl ?_)
 intro w13 hp14
 have ok15 : Msg.Ok m := ⟨(show InR (m.kind) from om.kind), (show InR (m.frm) from om.frm), (show InR (m.dst) from om.dst)⟩
 have hS16 := hS11.pt2 hp14
 refine zg ?_
 refine zd ?_
 refine za (by kernel_rfl) (fun _ => ?_)
 refine st (xo rfl ?_)
 refine st (zh (v := dm1) Try.isAgg22 rfl (zi (hS16.blk (i := 2) rfl) rfl) ?_)
 refine st (zj (f := 75) (vals := [dm1]) (cap := []) rfl rfl Try.call75 (Xi (l := m.evs) (vl := dm1) hdm1 hS16) ?_)
 rintro v17 w18 ⟨_, rfl, hS19⟩
 have hr20 := hS19.row (i := 0) rfl
 have hr20s : _ * 96 ≤ _ := hr20.2
 refine st (xo rfl ?_)
 refine stn (yZ (v := v17) (c := [.int .i64 (m.kind), .int .i64 (m.frm), .int .i64 (m.dst), v9, dm1]) (c' := [.int .i64 (m.kind), .int .i64 (m.frm), .int .i64 (m.dst), v9, v17]) Try.sizeOf22 rfl rfl (hS19.blk (i := 3) rfl) hr20.1.one rfl rfl ?_)
 intro w21 hp22
 have ok23 : Msg.Ok m := ⟨(show InR (m.kind) from ok15.kind), (show InR (m.frm) from ok15.frm), (show InR (m.dst) from ok15.dst)⟩
 have hS24 := hS19.pt3 hp22
 refine zg ?_
 refine zd ?_
 refine za (by kernel_rfl) (fun _ => ?_)
 refine st (zv (k := 5) Try.isAgg57 Try.sizeOf57 rfl rfl (CellsAt.all (hS24.blk (i := 3) rfl)) ?_)
 refine stn (zT (v := .agg (m.cells v9 v17).toArray) (c' := (m.cells v9 v17).toArray) Try.sizeOf57 rfl rfl (hS24.blk (i := 2) rfl) (yz ⟨rfl, rfl, rfl, hr12.1.one, hr20.1.one, trivial⟩) (Nat.le_of_ble_eq_true rfl) rfl ?_)
 intro w25 hp26
 have hS27 := hS24.pt2 hp26
 refine zg ?_
 refine zw ?_
 refine XR (b := b6) Try.results42 Try.isAgg57 Try.sizeOf57 rfl rfl (CellsAt.all (hS27.blk (i := 2) rfl)) ?_
 have hS28 : Sep G W ((RowE (α := Int) own 3 v9 m.vec) :: (RowE (α := Ev) own 36 v17 m.evs) :: Rs) w25 := hS27.sel 4 [1, 0] (Nat.le_add_left _ _) rfl rfl
 refine ⟨v9, v17, rfl, hS28⟩

theorem yg {G : Nat → Prop} {W w : World} {Rs : List HP} {a : Msg} {da0 : Value} (hda0 : RdS W G da0 a.vec) {da1 : Value} (hda1 : RdS W G da1 a.evs) (oa : a.Ok) {b : Msg} {db0 : Value} (hdb0 : RdS W G db0 b.vec) {db1 : Value} (hdb1 : RdS W G db1 b.evs) (ob : b.Ok) (hS0 : Sep G W Rs w) : Ret Try.prog 44 [.agg (a.cells da0 da1).toArray, .agg (b.cells db0 db1).toArray] w (fun r w' => r = (.bool (decide (a = b)) : Value) ∧ Sep G W Rs w') := by
 have hda0s : _ * 8 ≤ _ := hda0.small
 have hda1s : _ * 96 ≤ _ := hda1.small
 have hdb0s : _ * 8 ≤ _ := hdb0.small
 have hdb1s : _ * 96 ≤ _ := hdb1.small
 refine zq (args := [.agg (a.cells da0 da1).toArray, .agg (b.cells db0 db1).toArray]) Try.func44 rfl rfl ?_
 refine zd ?_
 refine za (by kernel_rfl) (fun _ => ?_)
 refine st (yp (v := .agg (a.cells da0 da1).toArray) rfl ?_)
 intro w3 b2 hn1
 have hS4 := hS0.new hn1
 refine st (yp (v := .agg (b.cells db0 db1).toArray) rfl ?_)
 intro w7 b6 hn5
 have hS8 := hS4.new hn5
 refine st (zf (v := .bool false) rfl ?_)
 refine zg ?_
 refine zd ?_
 refine zF (by kernel_rfl) ?_
 refine st (yF rfl ?_)
 refine st (zh (v := .int .i64 (a.kind)) Try.isAgg3 rfl (zi (hS8.blk (i := 1) rfl) rfl) ?_)
 refine st (yF rfl ?_)
 refine st (zh (v := .int .i64 (b.kind)) Try.isAgg3 rfl (zi (hS8.blk (i := 0) rfl) rfl) ?_)
 refine st (zO (k := .i64) (a := a.kind) (b := b.kind) rfl rfl ?_)
 refine st (zb (v := .bool (decide (a.kind = b.kind))) rfl ?_)
 refine stc (V := .pointer (some ⟨b2, 1, none⟩)) rfl rfl (fun hb9 => ?_) ?_
 ·have hl10 := hb9
  have hl10 := of_decide_eq_true hl10
  exact yI rfl ⟨rfl, rfl⟩
 refine stc (V := .int .i64 (a.frm)) rfl rfl (fun hb11 => ?_) ?_
 ·have hl12 := hb11
  have hl12 := of_decide_eq_true hl12
  exact zh (v := .int .i64 (a.frm)) Try.isAgg3 (show _ = (.pointer (some ⟨b2, 1, none⟩) : Value) from (if_pos hb11)) (zi (hS8.blk (i := 1) rfl) rfl) ⟨rfl, rfl⟩
 refine stc (V := .pointer (some ⟨b6, 1, none⟩)) rfl rfl (fun hb13 => ?_) ?_
 ·have hl14 := hb13
  have hl14 := of_decide_eq_true hl14
  exact yI rfl ⟨rfl, rfl⟩
 refine stc (V := .int .i64 (b.frm)) rfl rfl (fun hb15 => ?_) ?_
 ·have hl16 := hb15
  have hl16 := of_decide_eq_true hl16
  exact zh (v := .int .i64 (b.frm)) Try.isAgg3 (show _ = (.pointer (some ⟨b6, 1, none⟩) : Value) from (if_pos hb15)) (zi (hS8.blk (i := 0) rfl) rfl) ⟨rfl, rfl⟩
 refine stc (V := .bool (decide (a.frm = b.frm))) rfl rfl (fun hb17 => ?_) ?_
 ·have hl18 := hb17
  have hl18 := of_decide_eq_true hl18
  exact zO (k := .i64) (a := a.frm) (b := b.frm) (show _ = (.int .i64 (a.frm) : Value) from (if_pos hb17)) (show _ = (.int .i64 (b.frm) : Value) from (if_pos hb17)) ⟨rfl, rfl⟩
 refine st (zI (b := decide (a.kind = b.kind)) (b' := decide (a.frm = b.frm)) rfl (fun hbp => (show _ = (.bool (decide (a.frm = b.frm)) : Value) from (if_pos hbp))) ?_)
 refine st (zb (v := .bool ((decide (a.kind = b.kind)) && (decide (a.frm = b.frm)))) rfl ?_)
 refine stc (V := .pointer (some ⟨b2, 2, none⟩)) rfl rfl (fun hb19 => ?_) ?_
 ·have hl20 := hb19
  try simp only [zr] at hl20
  exact ZW rfl ⟨rfl, rfl⟩
 refine stc (V := .int .i64 (a.dst)) rfl rfl (fun hb21 => ?_) ?_
 ·have hl22 := hb21
  try simp only [zr] at hl22
  exact zh (v := .int .i64 (a.dst)) Try.isAgg3 (show _ = (.pointer (some ⟨b2, 2, none⟩) : Value) from (if_pos hb21)) (zi (hS8.blk (i := 1) rfl) rfl) ⟨rfl, rfl⟩
 refine stc (V := .pointer (some ⟨b6, 2, none⟩)) rfl rfl (fun hb23 => ?_) ?_
 ·have hl24 := hb23
  try simp only [zr] at hl24
  exact ZW rfl ⟨rfl, rfl⟩
 refine stc (V := .int .i64 (b.dst)) rfl rfl (fun hb25 => ?_) ?_
 ·have hl26 := hb25
  try simp only [zr] at hl26
  exact zh (v := .int .i64 (b.dst)) Try.isAgg3 (show _ = (.pointer (some ⟨b6, 2, none⟩) : Value) from (if_pos hb25)) (zi (hS8.blk (i := 0) rfl) rfl) ⟨rfl, rfl⟩
 refine stc (V := .bool (decide (a.dst = b.dst))) rfl rfl (fun hb27 => ?_) ?_
 ·have hl28 := hb27
  try simp only [zr] at hl28
  exact zO (k := .i64) (a := a.dst) (b := b.dst) (show _ = (.int .i64 (a.dst) : Value) from (if_pos hb27)) (show _ = (.int .i64 (b.dst) : Value) from (if_pos hb27)) ⟨rfl, rfl⟩
 refine st (zI (b := (decide (a.kind = b.kind)) && (decide (a.frm = b.frm))) (b' := decide (a.dst = b.dst)) rfl (fun hbp => (show _ = (.bool (decide (a.dst = b.dst)) : Value) from (if_pos hbp))) ?_)
 refine st (zb (v := .bool (((decide (a.kind = b.kind)) && (decide (a.frm = b.frm))) && (decide (a.dst = b.dst)))) rfl ?_)
 refine stc (V := .pointer (some ⟨b2, 3, none⟩)) rfl rfl (fun hb29 => ?_) ?_
 ·have hl30 := hb29
  try simp only [zr] at hl30
  exact yh rfl ⟨rfl, rfl⟩
 refine stc (V := da0) rfl rfl (fun hb31 => ?_) ?_
 ·have hl32 := hb31
  try simp only [zr] at hl32
  exact zh (v := da0) Try.isAgg34 (show _ = (.pointer (some ⟨b2, 3, none⟩) : Value) from (if_pos hb31)) (zi (hS8.blk (i := 1) rfl) rfl) ⟨rfl, rfl⟩
 refine stc (V := .pointer (some ⟨b6, 3, none⟩)) rfl rfl (fun hb33 => ?_) ?_
 ·have hl34 := hb33
  try simp only [zr] at hl34
  exact yh rfl ⟨rfl, rfl⟩
 refine stc (V := db0) rfl rfl (fun hb35 => ?_) ?_
 ·have hl36 := hb35
  try simp only [zr] at hl36
  exact zh (v := db0) Try.isAgg34 (show _ = (.pointer (some ⟨b6, 3, none⟩) : Value) from (if_pos hb35)) (zi (hS8.blk (i := 0) rfl) rfl) ⟨rfl, rfl⟩
 refine UR (V := .bool (decide (a.vec = b.vec))) (fun _ wq => Sep G W ((Blk b6 (b.cells db0 db1).toArray 57) :: (Blk b2 (a.cells da0 da1).toArray 57) :: Rs) wq) hS8 rfl rfl (fun hb37 => ?_) (fun w41 hS42 => ?_)
 ·have hl38 := hb37
  try simp only [zr] at hl38
  refine (zj (f := 27) (vals := [da0, db0]) (cap := []) rfl (yD ⟨(show _ = (da0 : Value) from (if_pos hb37)), (show _ = (db0 : Value) from (if_pos hb37)), trivial⟩) Try.call27 (yL (a := a.vec) (va := da0) (b := b.vec) (vb := db0) hda0 hdb0 hS8) ?_)
  rintro _ w39 ⟨rfl, hS40⟩
  exact ⟨rfl, hS40⟩
 refine st (zI (b := ((decide (a.kind = b.kind)) && (decide (a.frm = b.frm))) && (decide (a.dst = b.dst))) (b' := decide (a.vec = b.vec)) rfl (fun hbp => (show _ = (.bool (decide (a.vec = b.vec)) : Value) from (if_pos hbp))) ?_)
 refine st (zb (v := .bool ((((decide (a.kind = b.kind)) && (decide (a.frm = b.frm))) && (decide (a.dst = b.dst))) && (decide (a.vec = b.vec)))) rfl ?_)
 refine stc (V := .pointer (some ⟨b2, 4, none⟩)) rfl rfl (fun hb43 => ?_) ?_
 ·have hl44 := hb43
  try simp only [zr] at hl44
  exact xo rfl ⟨rfl, rfl⟩
 refine stc (V := da1) rfl rfl (fun hb45 => ?_) ?_
 ·have hl46 := hb45
  try simp only [zr] at hl46
  exact zh (v := da1) Try.isAgg22 (show _ = (.pointer (some ⟨b2, 4, none⟩) : Value) from (if_pos hb45)) (zi (hS42.blk (i := 1) rfl) rfl) ⟨rfl, rfl⟩
 refine stc (V := .pointer (some ⟨b6, 4, none⟩)) rfl rfl (fun hb47 => ?_) ?_
 ·have hl48 := hb47
  try simp only [zr] at hl48
  exact xo rfl ⟨rfl, rfl⟩
 refine stc (V := db1) rfl rfl (fun hb49 => ?_) ?_
 ·have hl50 := hb49
  try simp only [zr] at hl50
  exact zh (v := db1) Try.isAgg22 (show _ = (.pointer (some ⟨b6, 4, none⟩) : Value) from (if_pos hb49)) (zi (hS42.blk (i := 0) rfl) rfl) ⟨rfl, rfl⟩
 refine UR (V := .bool (decide (a.evs = b.evs))) (fun _ wq => Sep G W ((Blk b6 (b.cells db0 db1).toArray 57) :: (Blk b2 (a.cells da0 da1).toArray 57) :: Rs) wq) hS42 rfl rfl (fun hb51 => ?_) (fun w55 hS56 => ?_)
 ·have hl52 := hb51
  try simp only [zr] at hl52
  refine (zj (f := 22) (vals := [da1, db1]) (cap := []) rfl (yD ⟨(show _ = (da1 : Value) from (if_pos hb51)), (show _ = (db1 : Value) from (if_pos hb51)), trivial⟩) Try.call22 (yO (a := a.evs) (va := da1) (b := b.evs) (vb := db1) hda1 hdb1 hS42) ?_)
  rintro _ w53 ⟨rfl, hS54⟩
  exact ⟨rfl, hS54⟩
 refine st (zI (b := (((decide (a.kind = b.kind)) && (decide (a.frm = b.frm))) && (decide (a.dst = b.dst))) && (decide (a.vec = b.vec))) (b' := decide (a.evs = b.evs)) rfl (fun hbp => (show _ = (.bool (decide (a.evs = b.evs)) : Value) from (if_pos hbp))) ?_)
 refine st (zf (v := .bool (((((decide (a.kind = b.kind)) && (decide (a.frm = b.frm))) && (decide (a.dst = b.dst))) && (decide (a.vec = b.vec))) && (decide (a.evs = b.evs)))) rfl ?_)
 refine zg ?_
 refine zw ?_
 refine zM Try.results44 (show _ = (.bool (((((decide (a.kind = b.kind)) && (decide (a.frm = b.frm))) && (decide (a.dst = b.dst))) && (decide (a.vec = b.vec))) && (decide (a.evs = b.evs))) : Value) from rfl) ?_
 have hS57 : Sep G W Rs w55 := hS56.sel 2 [] (Nat.le_add_left _ _) rfl rfl
 refine ⟨?_, hS57⟩
 congr 1
 rw [Bool.eq_iff_iff]
 simp only [Bool.and_eq_true, decide_eq_true_eq, Msg.eq_iff]
 constructor
 · rintro ⟨⟨⟨⟨h1, h2⟩, h3⟩, h4⟩, h5⟩; exact ⟨h1, h2, h3, h4, h5⟩
 · rintro ⟨h1, h2, h3, h4, h5⟩; exact ⟨⟨⟨⟨h1, h2⟩, h3⟩, h4⟩, h5⟩

end Go.Proofs.Ytgjgmojjeehieaa
end
