/- Texts of this claim, part 11. -/
import Derived.Test.YtmiihhbeclhaoaaY10
set_option linter.unusedSimpArgs false
set_option linter.unusedVariables false
set_option linter.unusedSectionVars false
/- Steps of the proofs of this seat: part R5. -/
set_option maxRecDepth 8000
set_option maxHeartbeats 4000000
namespace Go.Proofs.Ytmiihhbeclhaoaa
open Go.Proofs Go.RowKit

theorem WJ (n : Int) : InR (IntKind.i64.wrap n) := by
  rw [IntKind.wrap_i64]
  omega
theorem Vn {G : Nat → Prop} {W w : World} {Rs : List HP} {i : Int} (hi : InR i) (hS0 : Sep G W Rs w) : Ret Try.prog 58 [.int .i64 (i)] w (fun r w' => ∃ (m : Int), r = (.int .i64 (m) : Value) ∧ (InR m) ∧ Sep G W Rs w') := by
 refine zp (args := [.int .i64 (i)]) Try.func58 rfl rfl ?_
 refine zc ?_
 refine za (by kernel_rfl) (fun _ => ?_)
 refine st (zd (v := .int .i64 (0)) rfl ?_)
 refine ze ?_
 refine zc ?_
 refine za (by kernel_rfl) (fun _ => ?_)
 refine st (zb (v := .int .i64 (i)) rfl ?_)
 refine st (Jh (r := IntKind.i64.wrap (13 * i)) (k := .i64) (a := 13) (b := i) rfl rfl rfl ?_)
 refine st (zB (r := IntKind.i64.wrap (7001 + (IntKind.i64.wrap (13 * i)))) (k := .i64) (a := 7001) (b := IntKind.i64.wrap (13 * i)) rfl rfl rfl ?_)
 refine st (zd (v := .int .i64 (IntKind.i64.wrap (7001 + (IntKind.i64.wrap (13 * i))))) rfl ?_)
 refine ze ?_
 refine zw ?_
 refine zL Try.results58 (show _ = (.int .i64 (IntKind.i64.wrap (7001 + (IntKind.i64.wrap (13 * i)))) : Value) from rfl) ?_
 refine ⟨IntKind.i64.wrap (7001 + (IntKind.i64.wrap (13 * i))), rfl, ?_, hS0⟩
 exact WJ _

theorem Ys {G : Nat → Prop} {W w : World} {Rs : List HP} {w0 : World} {f0 : Nat → Prop} {X : Nat → Nat → Prop} {vl : Value} {l : List Int} (hl9 : RdS w0 f0 vl l) (hS0 : Sep G W ((ML w0 f0 X) :: Rs) w) : Ret Try.prog 25 [vl] w (fun r w' => r = (.tuple #[] : Value) ∧ Sep G W ((ML w0 f0 X) :: Rs) w') := by
 have hl9s : _ * 8 ≤ _ := hl9.small
 refine zp (args := [vl]) Try.func25 rfl rfl ?_
 refine zc ?_
 refine za (by kernel_rfl) (fun _ => ?_)
 refine st (zd (v := .int .i64 (0)) rfl ?_)
 refine ze ?_
 refine zt ?_
 refine zP (fun mq σ wq => ∃ (k : Nat) (ρ : Env), mq = l.length - k ∧ σ = zQ ρ [(0, vl), (2, .int .i64 ((k : Nat) : Int))] ∧ (k ≤ l.length) ∧ Sep G W ((ML w0 f0 X) :: Rs) wq) ⟨0, _, rfl, zh ⟨rfl, rfl, trivial⟩, Nat.zero_le _, hS0⟩ ?_
 rintro m2 σ3 w1 ⟨k, ρl1, rfl, rfl, hkk, hS4⟩
 refine zc ?_
 refine zc ?_
 refine za (by kernel_rfl) (fun _ => ?_)
 refine st (zb (v := .int .i64 ((k : Nat) : Int)) rfl ?_)
 refine st (zb (v := vl) rfl ?_)
 refine st (zJ (n := l.length) Try.underlying34 rfl hl9.sl ?_)
 refine st (zH (k := .i64) (a := ((k : Nat) : Int)) (b := ((l.length : Nat) : Int)) rfl rfl ?_)
 refine ze ?_
 cases hc5 : decide (((k : Nat) : Int) < ((l.length : Nat) : Int))
 ·skip
  have hc5 := of_decide_eq_false hc5
  refine zi rfl ?_
  refine zO ?_
  refine zF ?_
  refine Up Try.results25 ?_
  refine ⟨rfl, hS4⟩
 ·skip
  have hc5 := of_decide_eq_true hc5
  refine zk rfl ?_
  refine zo ?_
  refine zc ?_
  refine zt ?_
  refine za (by kernel_rfl) (fun _ => ?_)
  refine st (zb (v := vl) rfl ?_)
  refine st (zb (v := .int .i64 ((k : Nat) : Int)) rfl ?_)
  refine st (zb (v := .int .i64 ((k : Nat) : Int)) rfl ?_)
  have hr6 : InR ((k + 7 : Nat) : Int) := by first | omega | (simp only [lens]; omega)
  refine st (zB (r := ((k + 7 : Nat) : Int)) (k := .i64) (a := ((k : Nat) : Int)) (b := 7) rfl rfl (by rw [show (((k : Nat) : Int) + 7 : Int) = ((k + 7 : Nat) : Int) by first | omega | (simp only [lens]; omega)]; exact zy hr6) ?_)
  refine st (zj (f := 58) (vals := [.int .i64 ((k + 7 : Nat) : Int)]) (cap := []) rfl rfl Try.call58 (Vn (i := ((k + 7 : Nat) : Int)) hr6 hS4) ?_)
  rintro _ w9 ⟨m7, rfl, hr8, hS10⟩
  have hi11 : k < l.length := (by first | omega | (simp only [lens]; omega))
  refine st (zl (k := 1) (i := k) Try.underlying34 Try.sizeOf3 rfl hl9.sl rfl hi11 ?_)
  have hi14 : k < l.length := (by first | omega | (simp only [lens]; omega))
  obtain ⟨hce13, _⟩ := hl9.int hi14
  refine stn (ZB (b := sb vl) (o := so vl + k * 1) (u := .int .i64 (m7)) (us := [.int .i64 (m7)]) (X' := X) hS10 Try.sizeOf3 rfl (hl9.foot (ne_of_lt hi14)) rfl rfl (yU ⟨rfl, trivial⟩) hce13 rfl (Nat.zero_lt_succ _) (fun j9 v9 u9 a9 b9 => .inr (MildAll.at_ (show MildAll [.int .i64 (l[k])] [.int .i64 (m7)] from ⟨MildV.num (by omega), trivial⟩) j9 v9 u9 a9 b9)) (fun _ _ h => h) ?_)
  intro w12 hS15
  refine ze ?_
  refine za (by kernel_rfl) (fun _ => ?_)
  refine st (zb (v := .int .i64 ((k : Nat) : Int)) rfl ?_)
  have hr16 : InR ((k + 1 : Nat) : Int) := by first | omega | (simp only [lens]; omega)
  refine st (zB (r := ((k + 1 : Nat) : Int)) (k := .i64) (a := ((k : Nat) : Int)) (b := 1) rfl rfl (by rw [show (((k : Nat) : Int) + 1 : Int) = ((k + 1 : Nat) : Int) by first | omega | (simp only [lens]; omega)]; exact zy hr16) ?_)
  refine st (zd (v := .int .i64 ((k + 1 : Nat) : Int)) rfl ?_)
  refine ze ?_
  exact ⟨_, by omega, k + 1, _, rfl, zh ⟨rfl, rfl, trivial⟩, by omega, hS15⟩

theorem Xg {G : Nat → Prop} {W w : World} {Rs : List HP} {w0 : World} {f0 : Nat → Prop} {vl : Value} {l : List Ev} (hl9 : RdS w0 f0 vl l) (hS0 : Sep G W ((ML w0 f0 noX) :: Rs) w) : Ret Try.prog 31 [vl] w (fun r w' => r = (.tuple #[] : Value) ∧ Sep G W Rs w') := by
 have hl9s : _ * 96 ≤ _ := hl9.small
 refine zp (args := [vl]) Try.func31 rfl rfl ?_
 refine zc ?_
 refine za (by kernel_rfl) (fun _ => ?_)
 refine st (zd (v := .int .i64 (0)) rfl ?_)
 refine ze ?_
 refine zt ?_
 refine zP (fun mq σ wq => ∃ (k : Nat) (ρ : Env), mq = l.length - k ∧ σ = zQ ρ [(0, vl), (2, .int .i64 ((k : Nat) : Int))] ∧ (k ≤ l.length) ∧ Sep G W ((ML w0 f0 noX) :: Rs) wq) ⟨0, _, rfl, zh ⟨rfl, rfl, trivial⟩, Nat.zero_le _, hS0⟩ ?_
 rintro m2 σ3 w1 ⟨k, ρl1, rfl, rfl, hkk, hS4⟩
 refine zc ?_
 refine zc ?_
 refine za (by kernel_rfl) (fun _ => ?_)
 refine st (zb (v := .int .i64 ((k : Nat) : Int)) rfl ?_)
 refine st (zb (v := vl) rfl ?_)
 refine st (zJ (n := l.length) Try.underlying22 rfl hl9.sl ?_)
 refine st (zH (k := .i64) (a := ((k : Nat) : Int)) (b := ((l.length : Nat) : Int)) rfl rfl ?_)
 refine ze ?_
 cases hc5 : decide (((k : Nat) : Int) < ((l.length : Nat) : Int))
 ·skip
  have hc5 := of_decide_eq_false hc5
  refine zi rfl ?_
  refine zO ?_
  refine zF ?_
  refine Up Try.results31 ?_
  have hS6 : Sep G W Rs w1 := hS4.sel 1 [] (Nat.le_add_left _ _) rfl rfl
  refine ⟨rfl, hS6⟩
 ·skip
  have hc5 := of_decide_eq_true hc5
  refine zk rfl ?_
  refine zo ?_
  refine zc ?_
  refine zt ?_
  refine zc ?_
  refine za (by kernel_rfl) (fun _ => ?_)
  refine st (zb (v := vl) rfl ?_)
  refine st (zb (v := .int .i64 ((k : Nat) : Int)) rfl ?_)
  have hi7 : k < l.length := (by first | omega | (simp only [lens]; omega))
  refine st (zl (k := 10) (i := k) Try.underlying22 Try.sizeOf36 rfl hl9.sl rfl hi7 ?_)
  refine st (yB rfl ?_)
  have hi9 : k < l.length := (by first | omega | (simp only [lens]; omega))
  obtain ⟨hce8, hde8_0, _⟩ := hl9.ev hi9
  rw [← zm default hi9] at hce8 hde8_0
  refine st (zg (v := (zT w0 (sb vl) (so vl + k * 10 + 3))) Try.isAgg34 rfl (hS4.mlHead (i := 0) rfl (hl9.foot (ne_of_lt hi9)) hce8 (j := 3) rfl (fun h => h) (IsSl.num hde8_0.sl)) ?_)
  refine st (zj (f := 25) (vals := [(zT w0 (sb vl) (so vl + k * 10 + 3))]) (cap := []) rfl rfl Try.call25 (Ys  hde8_0 hS4) ?_)
  rintro _ w10 ⟨rfl, hS11⟩
  refine ze ?_
  refine zc ?_
  refine za (by kernel_rfl) (fun _ => ?_)
  refine st (zb (v := vl) rfl ?_)
  refine st (zb (v := .int .i64 ((k : Nat) : Int)) rfl ?_)
  have hi12 : k < l.length := (by first | omega | (simp only [lens]; omega))
  refine st (zl (k := 10) (i := k) Try.underlying22 Try.sizeOf36 rfl hl9.sl rfl hi12 ?_)
  refine st (yO rfl ?_)
  have hi15 : k < l.length := (by first | omega | (simp only [lens]; omega))
  obtain ⟨hce14, hde14_0, _⟩ := hl9.ev hi15
  rw [← zm default hi15] at hce14 hde14_0
  refine stn (ZB (b := sb vl) (o := so vl + k * 10 + 2) (u := .int .i64 (77)) (us := [.int .i64 (77)]) (X' := noX) hS11 Try.sizeOf3 rfl (hl9.foot (ne_of_lt hi15)) rfl rfl (yU ⟨rfl, trivial⟩) (CellsAt.sub hce14 2 (cs2 := [.int .i64 ((l.getD k default).lam)]) rfl) rfl (Nat.zero_lt_succ _) (fun j9 v9 u9 a9 b9 => .inr (MildAll.at_ (show MildAll [.int .i64 ((l.getD k default).lam)] [.int .i64 (77)] from ⟨MildV.num (by decide), trivial⟩) j9 v9 u9 a9 b9)) (fun _ _ h => h) ?_)
  intro w13 hS16
  refine ze ?_
  refine za (by kernel_rfl) (fun _ => ?_)
  refine st (zb (v := vl) rfl ?_)
  refine st (zb (v := .int .i64 ((k : Nat) : Int)) rfl ?_)
  have hi17 : k < l.length := (by first | omega | (simp only [lens]; omega))
  refine st (zl (k := 10) (i := k) Try.underlying22 Try.sizeOf36 rfl hl9.sl rfl hi17 ?_)
  refine st (VF rfl ?_)
  have hi20 : k < l.length := (by first | omega | (simp only [lens]; omega))
  obtain ⟨hce19, hde19_0, _⟩ := hl9.ev hi20
  rw [← zm default hi20] at hce19 hde19_0
  refine stn (ZB (b := sb vl) (o := so vl + k * 10 + 8) (u := .int .i64 (-7)) (us := [.int .i64 (-7)]) (X' := noX) hS16 Try.sizeOf3 rfl (hl9.foot (ne_of_lt hi20)) rfl rfl (yU ⟨rfl, trivial⟩) (CellsAt.sub hce19 8 (cs2 := [.int .i64 ((l.getD k default).arg)]) rfl) rfl (Nat.zero_lt_succ _) (fun j9 v9 u9 a9 b9 => .inr (MildAll.at_ (show MildAll [.int .i64 ((l.getD k default).arg)] [.int .i64 (-7)] from ⟨MildV.num (by decide), trivial⟩) j9 v9 u9 a9 b9)) (fun _ _ h => h) ?_)
  intro w18 hS21
  refine ze ?_
  refine za (by kernel_rfl) (fun _ => ?_)
  refine st (zb (v := .int .i64 ((k : Nat) : Int)) rfl ?_)
  have hr22 : InR ((k + 1 : Nat) : Int) := by first | omega | (simp only [lens]; omega)
  refine st (zB (r := ((k + 1 : Nat) : Int)) (k := .i64) (a := ((k : Nat) : Int)) (b := 1) rfl rfl (by rw [show (((k : Nat) : Int) + 1 : Int) = ((k + 1 : Nat) : Int) by first | omega | (simp only [lens]; omega)]; exact zy hr22) ?_)
  refine st (zd (v := .int .i64 ((k + 1 : Nat) : Int)) rfl ?_)
  refine ze ?_
  exact ⟨_, by omega, k + 1, _, rfl, zh ⟨rfl, rfl, trivial⟩, by omega, hS21⟩

end Go.Proofs.Ytmiihhbeclhaoaa
