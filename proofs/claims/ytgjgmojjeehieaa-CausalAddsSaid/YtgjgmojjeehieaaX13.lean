/- Texts of this claim, part 13. -/
import Derived.Test.YtgjgmojjeehieaaX12
set_option linter.unusedSimpArgs false
set_option linter.unusedVariables false
section
/- Steps of the proofs of this seat: part R5. -/
set_option linter.unusedSimpArgs false
set_option linter.unusedVariables false
set_option maxRecDepth 8000
set_option maxHeartbeats 4000000
namespace Go.Proofs.Ytgjgmojjeehieaa
open Go.Proofs Go.RowKit

theorem wrap9_range (n : Int) : InR (IntKind.i64.wrap n) := by
  rw [IntKind.wrap_i64]
  omega
theorem D_markInts {G : Nat → Prop} {W w : World} {Rs : List HP} {i : Int} (hi : InR i) (hS0 : Sep G W Rs w) : Ret Try.prog 67 [.int .i64 (i)] w (fun r w' => ∃ (m : Int), r = (.int .i64 (m) : Value) ∧ (InR m) ∧ Sep G W Rs w') := by
 refine Calls_of_WP (args := [.int .i64 (i)]) Try.func67 rfl rfl ?_
 refine WP_seq ?_
 refine WP_region0 (by kernel_rfl) (fun _ => ?_)
 refine st (ov_assign (v := .int .i64 (0)) rfl ?_)
 refine st_nil ?_
 refine WP_seq ?_
 refine WP_region0 (by kernel_rfl) (fun _ => ?_)
 refine st (ov_move (v := .int .i64 (i)) rfl ?_)
 refine st (ov_mul (r := IntKind.i64.wrap (13 * i)) (k := .i64) (a := 13) (b := i) rfl rfl rfl ?_)
 refine st (ov_add (r := IntKind.i64.wrap (7001 + (IntKind.i64.wrap (13 * i)))) (k := .i64) (a := 7001) (b := IntKind.i64.wrap (13 * i)) rfl rfl rfl ?_)
 refine st (ov_assign (v := .int .i64 (IntKind.i64.wrap (7001 + (IntKind.i64.wrap (13 * i))))) rfl ?_)
 refine st_nil ?_
 refine WP_ret ?_
 refine fin1 Try.results67 (show _ = (.int .i64 (IntKind.i64.wrap (7001 + (IntKind.i64.wrap (13 * i)))) : Value) from rfl) ?_
 refine ⟨IntKind.i64.wrap (7001 + (IntKind.i64.wrap (13 * i))), rfl, ?_, hS0⟩
 exact wrap9_range _

theorem D_SpoilInts {G : Nat → Prop} {W w : World} {Rs : List HP} {w0 : World} {f0 : Nat → Prop} {X : Nat → Nat → Prop} {vl : Value} {l : List Int} (hl9 : RdS w0 f0 vl l) (hS0 : Sep G W ((ML w0 f0 X) :: Rs) w) : Ret Try.prog 37 [vl] w (fun r w' => r = (.tuple #[] : Value) ∧ Sep G W ((ML w0 f0 X) :: Rs) w') := by
 have hl9s : l.length * 8 ≤ 140737488355328 := hl9.small
 refine Calls_of_WP (args := [vl]) Try.func37 rfl rfl ?_
 refine WP_seq ?_
 refine WP_region0 (by kernel_rfl) (fun _ => ?_)
 refine st (ov_assign (v := .int .i64 (0)) rfl ?_)
 refine st_nil ?_
 refine WP_block ?_
 refine WP_loop (fun mq σ wq => ∃ (k : Nat) (ρ : Env), mq = l.length - k ∧ σ = setAll ρ [(0, vl), (2, .int .i64 ((k : Nat) : Int))] ∧ (k ≤ l.length) ∧ Sep G W ((ML w0 f0 X) :: Rs) wq) ⟨0, _, rfl, setAll_self ⟨rfl, rfl, trivial⟩, Nat.zero_le _, hS0⟩ ?_
 rintro m2 σ3 w1 ⟨k, ρl1, rfl, rfl, hkk, hS4⟩
 refine WP_seq ?_
 refine WP_seq ?_
 refine WP_region0 (by kernel_rfl) (fun _ => ?_)
 refine st (ov_move (v := .int .i64 ((k : Nat) : Int)) rfl ?_)
 refine st (ov_move (v := vl) rfl ?_)
 refine st (ov_len (n := l.length) Try.underlying34 rfl hl9.sl ?_)
 refine st (ov_lss (k := .i64) (a := ((k : Nat) : Int)) (b := ((l.length : Nat) : Int)) rfl rfl ?_)
 refine st_nil ?_
 cases hc5 : decide (((k : Nat) : Int) < ((l.length : Nat) : Int))
 ·skip
  have hc5 := of_decide_eq_false hc5
  refine WP_cond_f rfl ?_
  refine WP_exit ?_
  refine blk_exit ?_
  refine fin0 Try.results37 ?_
  refine ⟨rfl, hS4⟩
 ·skip
  have hc5 := of_decide_eq_true hc5
  refine WP_cond_t rfl ?_
  refine WP_skip ?_
  refine WP_seq ?_
  refine WP_block ?_
  refine WP_region0 (by kernel_rfl) (fun _ => ?_)
  refine st (ov_move (v := vl) rfl ?_)
  refine st (ov_move (v := .int .i64 ((k : Nat) : Int)) rfl ?_)
  refine st (ov_move (v := .int .i64 ((k : Nat) : Int)) rfl ?_)
  have hr6 : InR ((k + 7 : Nat) : Int) := by first | omega | (simp only [lens]; omega)
  refine st (ov_add (r := ((k + 7 : Nat) : Int)) (k := .i64) (a := ((k : Nat) : Int)) (b := 7) rfl rfl (by rw [show (((k : Nat) : Int) + 7 : Int) = ((k + 7 : Nat) : Int) by first | omega | (simp only [lens]; omega)]; exact wrap_in hr6) ?_)
  refine st (ov_call (f := 67) (vals := [.int .i64 ((k + 7 : Nat) : Int)]) (cap := []) (show _ = (.func (.func 67) #[] #[] : Value) from rfl) rfl Try.call67 (D_markInts (i := ((k + 7 : Nat) : Int)) hr6 hS4) ?_)
  rintro _ w9 ⟨m7, rfl, hr8, hS10⟩
  have hi11 : k < l.length := (by first | omega | (simp only [lens]; omega))
  refine st (ov_indexAddrN (k := 1) (i := k) Try.underlying34 Try.sizeOf3 rfl hl9.sl rfl hi11 ?_)
  have hi14 : k < l.length := (by first | omega | (simp only [lens]; omega))
  obtain ⟨hce13, _⟩ := hl9.int hi14
  refine stn (ov_storeML (b := sb vl) (o := so vl + k * 1) (u := .int .i64 (m7)) (us := [.int .i64 (m7)]) (X' := X) hS10 Try.sizeOf3 rfl (hl9.foot (ne_of_lt hi14)) rfl rfl (all1 ⟨rfl, trivial⟩) hce13 rfl (Nat.zero_lt_succ _) (fun j9 v9 u9 a9 b9 => .inr (MildAll.at_ (show MildAll [.int .i64 (l[k])] [.int .i64 (m7)] from ⟨MildV.num (by omega), trivial⟩) j9 v9 u9 a9 b9)) (fun _ _ h => h) ?_)
  intro w12 hS15
  refine st_nil ?_
  refine WP_region0 (by kernel_rfl) (fun _ => ?_)
  refine st (ov_move (v := .int .i64 ((k : Nat) : Int)) rfl ?_)
  have hr16 : InR ((k + 1 : Nat) : Int) := by first | omega | (simp only [lens]; omega)
  refine st (ov_add (r := ((k + 1 : Nat) : Int)) (k := .i64) (a := ((k : Nat) : Int)) (b := 1) rfl rfl (by rw [show (((k : Nat) : Int) + 1 : Int) = ((k + 1 : Nat) : Int) by first | omega | (simp only [lens]; omega)]; exact wrap_in hr16) ?_)
  refine st (ov_assign (v := .int .i64 ((k + 1 : Nat) : Int)) rfl ?_)
  refine st_nil ?_
  exact ⟨_, by omega, k + 1, _, rfl, setAll_self ⟨rfl, rfl, trivial⟩, by omega, hS15⟩

theorem D_SpoilEvents {G : Nat → Prop} {W w : World} {Rs : List HP} {w0 : World} {f0 : Nat → Prop} {vl : Value} {l : List Ev} (hl9 : RdS w0 f0 vl l) (hS0 : Sep G W ((ML w0 f0 noX) :: Rs) w) : Ret Try.prog 45 [vl] w (fun r w' => r = (.tuple #[] : Value) ∧ Sep G W Rs w') := by
 have hl9s : l.length * 96 ≤ 140737488355328 := hl9.small
 refine Calls_of_WP (args := [vl]) Try.func45 rfl rfl ?_
 refine WP_seq ?_
 refine WP_region0 (by kernel_rfl) (fun _ => ?_)
 refine st (ov_assign (v := .int .i64 (0)) rfl ?_)
 refine st_nil ?_
 refine WP_block ?_
 refine WP_loop (fun mq σ wq => ∃ (k : Nat) (ρ : Env), mq = l.length - k ∧ σ = setAll ρ [(0, vl), (2, .int .i64 ((k : Nat) : Int))] ∧ (k ≤ l.length) ∧ Sep G W ((ML w0 f0 noX) :: Rs) wq) ⟨0, _, rfl, setAll_self ⟨rfl, rfl, trivial⟩, Nat.zero_le _, hS0⟩ ?_
 rintro m2 σ3 w1 ⟨k, ρl1, rfl, rfl, hkk, hS4⟩
 refine WP_seq ?_
 refine WP_seq ?_
 refine WP_region0 (by kernel_rfl) (fun _ => ?_)
 refine st (ov_move (v := .int .i64 ((k : Nat) : Int)) rfl ?_)
 refine st (ov_move (v := vl) rfl ?_)
 refine st (ov_len (n := l.length) Try.underlying22 rfl hl9.sl ?_)
 refine st (ov_lss (k := .i64) (a := ((k : Nat) : Int)) (b := ((l.length : Nat) : Int)) rfl rfl ?_)
 refine st_nil ?_
 cases hc5 : decide (((k : Nat) : Int) < ((l.length : Nat) : Int))
 ·skip
  have hc5 := of_decide_eq_false hc5
  refine WP_cond_f rfl ?_
  refine WP_exit ?_
  refine blk_exit ?_
  refine fin0 Try.results45 ?_
  have hS6 : Sep G W Rs w1 := hS4.sel 1 [] (Nat.le_add_left _ _) rfl rfl
  refine ⟨rfl, hS6⟩
 ·skip
  have hc5 := of_decide_eq_true hc5
  refine WP_cond_t rfl ?_
  refine WP_skip ?_
  refine WP_seq ?_
  refine WP_block ?_
  refine WP_seq ?_
  refine WP_region0 (by kernel_rfl) (fun _ => ?_)
  refine st (ov_move (v := vl) rfl ?_)
  refine st (ov_move (v := .int .i64 ((k : Nat) : Int)) rfl ?_)
  have hi7 : k < l.length := (by first | omega | (simp only [lens]; omega))
  refine st (ov_indexAddrN (k := 10) (i := k) Try.underlying22 Try.sizeOf36 rfl hl9.sl rfl hi7 ?_)
  refine st (fd36_2 rfl ?_)
  have hi9 : k < l.length := (by first | omega | (simp only [lens]; omega))
  obtain ⟨hce8, hde8_0, _⟩ := hl9.ev hi9
  rw [← getD_at default hi9] at hce8 hde8_0
  refine st (ov_load1 (v := (cellV w0 (sb vl) (so vl + k * 10 + 3))) Try.isAgg34 rfl (hS4.mlHead (i := 0) rfl (hl9.foot (ne_of_lt hi9)) hce8 (j := 3) rfl (fun h => h) (IsSl.num hde8_0.sl)) ?_)
  refine st (ov_call (f := 37) (vals := [(cellV w0 (sb vl) (so vl + k * 10 + 3))]) (cap := []) (show _ = (.func (.func 37) #[] #[] : Value) from rfl) rfl Try.call37 (D_SpoilInts  hde8_0 hS4) ?_)
  rintro _ w10 ⟨rfl, hS11⟩
  refine st_nil ?_
  refine WP_seq ?_
  refine WP_region0 (by kernel_rfl) (fun _ => ?_)
  refine st (ov_move (v := vl) rfl ?_)
  refine st (ov_move (v := .int .i64 ((k : Nat) : Int)) rfl ?_)
  have hi12 : k < l.length := (by first | omega | (simp only [lens]; omega))
  refine st (ov_indexAddrN (k := 10) (i := k) Try.underlying22 Try.sizeOf36 rfl hl9.sl rfl hi12 ?_)
  refine st (fd36_1 rfl ?_)
  have hi15 : k < l.length := (by first | omega | (simp only [lens]; omega))
  obtain ⟨hce14, hde14_0, _⟩ := hl9.ev hi15
  rw [← getD_at default hi15] at hce14 hde14_0
  refine stn (ov_storeML (b := sb vl) (o := so vl + k * 10 + 2) (u := .int .i64 (77)) (us := [.int .i64 (77)]) (X' := noX) hS11 Try.sizeOf3 rfl (hl9.foot (ne_of_lt hi15)) rfl rfl (all1 ⟨rfl, trivial⟩) (CellsAt.sub hce14 2 (cs2 := [.int .i64 ((l.getD k default).lam)]) rfl) rfl (Nat.zero_lt_succ _) (fun j9 v9 u9 a9 b9 => .inr (MildAll.at_ (show MildAll [.int .i64 ((l.getD k default).lam)] [.int .i64 (77)] from ⟨MildV.num (by decide), trivial⟩) j9 v9 u9 a9 b9)) (fun _ _ h => h) ?_)
  intro w13 hS16
  refine st_nil ?_
  refine WP_region0 (by kernel_rfl) (fun _ => ?_)
  refine st (ov_move (v := vl) rfl ?_)
  refine st (ov_move (v := .int .i64 ((k : Nat) : Int)) rfl ?_)
  have hi17 : k < l.length := (by first | omega | (simp only [lens]; omega))
  refine st (ov_indexAddrN (k := 10) (i := k) Try.underlying22 Try.sizeOf36 rfl hl9.sl rfl hi17 ?_)
  refine st (fd36_7 rfl ?_)
  have hi20 : k < l.length := (by first | omega | (simp only [lens]; omega))
  obtain ⟨hce19, hde19_0, _⟩ := hl9.ev hi20
  rw [← getD_at default hi20] at hce19 hde19_0
  refine stn (ov_storeML (b := sb vl) (o := so vl + k * 10 + 8) (u := .int .i64 (-7)) (us := [.int .i64 (-7)]) (X' := noX) hS16 Try.sizeOf3 rfl (hl9.foot (ne_of_lt hi20)) rfl rfl (all1 ⟨rfl, trivial⟩) (CellsAt.sub hce19 8 (cs2 := [.int .i64 ((l.getD k default).arg)]) rfl) rfl (Nat.zero_lt_succ _) (fun j9 v9 u9 a9 b9 => .inr (MildAll.at_ (show MildAll [.int .i64 ((l.getD k default).arg)] [.int .i64 (-7)] from ⟨MildV.num (by decide), trivial⟩) j9 v9 u9 a9 b9)) (fun _ _ h => h) ?_)
  intro w18 hS21
  refine st_nil ?_
  refine WP_region0 (by kernel_rfl) (fun _ => ?_)
  refine st (ov_move (v := .int .i64 ((k : Nat) : Int)) rfl ?_)
  have hr22 : InR ((k + 1 : Nat) : Int) := by first | omega | (simp only [lens]; omega)
  refine st (ov_add (r := ((k + 1 : Nat) : Int)) (k := .i64) (a := ((k : Nat) : Int)) (b := 1) rfl rfl (by rw [show (((k : Nat) : Int) + 1 : Int) = ((k + 1 : Nat) : Int) by first | omega | (simp only [lens]; omega)]; exact wrap_in hr22) ?_)
  refine st (ov_assign (v := .int .i64 ((k + 1 : Nat) : Int)) rfl ?_)
  refine st_nil ?_
  exact ⟨_, by omega, k + 1, _, rfl, setAll_self ⟨rfl, rfl, trivial⟩, by omega, hS21⟩

theorem D_same {G : Nat → Prop} {W w : World} {Rs : List HP} {b : Nat} {n : Nat} {L : List Ev} (hb : (SetO b n L).p W G) {b2 : Nat} (hb2 : (RefS b2 n L).p W G) {o q : Int} (ho : InR o) (hq : InR q) {key : Int} (hkey : InR key) {most : Int} (hmost : InR most) {vvec : Value} {vec : List Int} (hvec : RdS W G vvec vec) (hS0 : Sep G W Rs w) (hG : Good n L) (hn : n ≤ 1000) (hL : L.length ≤ 1000000) : Ret Try.prog 38 [.pointer (some ⟨b, 0, none⟩), .pointer (some ⟨b2, 0, none⟩), .agg #[.int .i64 (o), .int .i64 (q)], .int .i64 (key), .int .i64 (most), vvec] w (fun r w' => r = (.bool true : Value) ∧ Sep G W Rs w') := by
 have hvecs : vec.length * 8 ≤ 140737488355328 := hvec.small
 refine Calls_of_WP (args := [.pointer (some ⟨b, 0, none⟩), .pointer (some ⟨b2, 0, none⟩), .agg #[.int .i64 (o), .int .i64 (q)], .int .i64 (key), .int .i64 (most), vvec]) Try.func38 rfl rfl ?_
 obtain ⟨vv1, m2, R3, hb4, hv5, hr6⟩ := SetO.sh hb
 have hsm7 : (vecE n L).length * 8 ≤ 140737488355328 := hv5.small
 refine WP_seq ?_
 obtain ⟨vl8, hb9, hl10⟩ := RefS.sh hb2
 have hsm11 : L.length * 96 ≤ 140737488355328 := hl10.small
 refine WP_region0 (by kernel_rfl) (fun _ => ?_)
 refine st (ov_box (v := .agg #[.int .i64 (o), .int .i64 (q)]) rfl ?_)
 intro w14 b13 hn12
 have hS15 : Sep G W ((Blk b13 #[.int .i64 (o), .int .i64 (q)] 33) :: Rs) w14 := hS0.new hn12
 refine st (ov_assign (v := .bool false) rfl ?_)
 refine st_nil ?_
 refine WP_seq ?_
 refine WP_region0 (by kernel_rfl) (fun _ => ?_)
 refine st (ov_move (v := .pointer (some ⟨b, 0, none⟩)) rfl ?_)
 refine st (ov_loadk (k := 2) Try.isAgg33 Try.sizeOf33 rfl rfl (CellsAt.all (hS15.blk (i := 0) rfl)) ?_)
 refine st (ov_call (f := 29) (vals := [.pointer (some ⟨b, 0, none⟩), .agg #[.int .i64 (o), .int .i64 (q)]]) (cap := []) (show _ = (.func (.func 29) #[] #[] : Value) from rfl) rfl Try.call29 (D_Get  hb ho hq hS15) ?_)
 rintro _ w18 ⟨v16, rfl, hgo17, hS19⟩
 have hr20 := hS19.row (i := 0) rfl
 have hr20s : (((getE L (o, q)).getD default).deps).length * 8 ≤ 140737488355328 := hr20.2
 refine st (ov_move (v := .tuple #[.agg (((getE L (o, q)).getD default).cells v16).toArray, .bool (getE L (o, q)).isSome]) rfl ?_)
 refine st (ov_extract (vs := [.agg (((getE L (o, q)).getD default).cells v16).toArray, .bool ((getE L (o, q)).isSome)]) (i := 0) (v := .agg (((getE L (o, q)).getD default).cells v16).toArray) rfl rfl ?_)
 refine st (ov_extract (vs := [.agg (((getE L (o, q)).getD default).cells v16).toArray, .bool ((getE L (o, q)).isSome)]) (i := 1) (v := .bool ((getE L (o, q)).isSome)) rfl rfl ?_)
 refine st (ov_alloc Try.zeroValue36 ?_)
 intro w23 b22 hn21
 have hS24 : Sep G W ((Blk b22 #[.int .i64 (0), .int .i64 (0), .int .i64 (0), (.slice none 0 0), .int .i64 (0), .int .i64 (0), .int .i64 (0), .int .i64 (0), .int .i64 (0), .int .i64 (0)] 36) :: (RowE (α := Int) own 3 v16 (((getE L (o, q)).getD default).deps)) :: (Blk b13 #[.int .i64 (o), .int .i64 (q)] 33) :: Rs) w23 := hS19.new hn21
 refine stn (ov_store (v := .agg (((getE L (o, q)).getD default).cells v16).toArray) (c' := (((getE L (o, q)).getD default).cells v16).toArray) Try.sizeOf36 rfl rfl (hS24.blk (i := 0) rfl) (all1 ⟨rfl, rfl, rfl, hr20.1.one, rfl, rfl, rfl, rfl, rfl, rfl, trivial⟩) (Nat.le_of_ble_eq_true rfl) rfl ?_)
 intro w25 hp26
 have hS27 : Sep G W ((Blk b22 (((getE L (o, q)).getD default).cells v16).toArray 36) :: (RowE (α := Int) own 3 v16 (((getE L (o, q)).getD default).deps)) :: (Blk b13 #[.int .i64 (o), .int .i64 (q)] 33) :: Rs) w25 := hS24.put (i := 0) rfl hp26
 refine st (ov_assign (v := .bool ((getE L (o, q)).isSome)) rfl ?_)
 refine st_nil ?_
 refine WP_seq ?_
 refine WP_region0 (by kernel_rfl) (fun _ => ?_)
 refine st (ov_move (v := .pointer (some ⟨b2, 0, none⟩)) rfl ?_)
 refine st (ov_loadk (k := 2) Try.isAgg33 Try.sizeOf33 rfl rfl (CellsAt.all (hS27.blk (i := 2) rfl)) ?_)
 refine st (ov_call (f := 64) (vals := [.pointer (some ⟨b2, 0, none⟩), .agg #[.int .i64 (o), .int .i64 (q)]]) (cap := []) (show _ = (.func (.func 64) #[] #[] : Value) from rfl) rfl Try.call64 (D_rGet  hb2 ho hq hS27) ?_)
 rintro _ w30 ⟨v28, rfl, hgo29, hS31⟩
 have hr32 := hS31.row (i := 0) rfl
 have hr32s : (((getE L (o, q)).getD default).deps).length * 8 ≤ 140737488355328 := hr32.2
 refine st (ov_move (v := .tuple #[.agg (((getE L (o, q)).getD default).cells v28).toArray, .bool (getE L (o, q)).isSome]) rfl ?_)
 refine st (ov_extract (vs := [.agg (((getE L (o, q)).getD default).cells v28).toArray, .bool ((getE L (o, q)).isSome)]) (i := 0) (v := .agg (((getE L (o, q)).getD default).cells v28).toArray) rfl rfl ?_)
 refine st (ov_extract (vs := [.agg (((getE L (o, q)).getD default).cells v28).toArray, .bool ((getE L (o, q)).isSome)]) (i := 1) (v := .bool ((getE L (o, q)).isSome)) rfl rfl ?_)
 refine st (ov_alloc Try.zeroValue36 ?_)
 intro w35 b34 hn33
 have hS36 : Sep G W ((Blk b34 #[.int .i64 (0), .int .i64 (0), .int .i64 (0), (.slice none 0 0), .int .i64 (0), .int .i64 (0), .int .i64 (0), .int .i64 (0), .int .i64 (0), .int .i64 (0)] 36) :: (RowE (α := Int) own 3 v28 (((getE L (o, q)).getD default).deps)) :: (Blk b22 (((getE L (o, q)).getD default).cells v16).toArray 36) :: (RowE (α := Int) own 3 v16 (((getE L (o, q)).getD default).deps)) :: (Blk b13 #[.int .i64 (o), .int .i64 (q)] 33) :: Rs) w35 := hS31.new hn33
 refine stn (ov_store (v := .agg (((getE L (o, q)).getD default).cells v28).toArray) (c' := (((getE L (o, q)).getD default).cells v28).toArray) Try.sizeOf36 rfl rfl (hS36.blk (i := 0) rfl) (all1 ⟨rfl, rfl, rfl, hr32.1.one, rfl, rfl, rfl, rfl, rfl, rfl, trivial⟩) (Nat.le_of_ble_eq_true rfl) rfl ?_)
 intro w37 hp38
 have hS39 : Sep G W ((Blk b34 (((getE L (o, q)).getD default).cells v28).toArray 36) :: (RowE (α := Int) own 3 v28 (((getE L (o, q)).getD default).deps)) :: (Blk b22 (((getE L (o, q)).getD default).cells v16).toArray 36) :: (RowE (α := Int) own 3 v16 (((getE L (o, q)).getD default).deps)) :: (Blk b13 #[.int .i64 (o), .int .i64 (q)] 33) :: Rs) w37 := hS36.put (i := 0) rfl hp38
 refine st (ov_assign (v := .bool ((getE L (o, q)).isSome)) rfl ?_)
 refine st_nil ?_
 refine WP_seq ?_
 refine WP_region0 (by kernel_rfl) (fun _ => ?_)
 refine st (ov_move (v := .pointer (some ⟨b, 0, none⟩)) rfl ?_)
 refine st (ov_move (v := .int .i64 (key)) rfl ?_)
 refine st (ov_call (f := 31) (vals := [.pointer (some ⟨b, 0, none⟩), .int .i64 (key)]) (cap := []) (show _ = (.func (.func 31) #[] #[] : Value) from rfl) rfl Try.call31 (D_Keyed (key := key) hb hkey hS39 (hG.ids) (hG.srt) (hL)) ?_)
 rintro _ w41 ⟨d40, rfl, hS42⟩
 refine st (ov_move (v := .tuple #[.agg (((keyE L key).getD default).cells d40).toArray, .bool (keyE L key).isSome]) rfl ?_)
 refine st (ov_extract (vs := [.agg (((keyE L key).getD default).cells d40).toArray, .bool ((keyE L key).isSome)]) (i := 0) (v := .agg (((keyE L key).getD default).cells d40).toArray) rfl rfl ?_)
 refine st (ov_extract (vs := [.agg (((keyE L key).getD default).cells d40).toArray, .bool ((keyE L key).isSome)]) (i := 1) (v := .bool ((keyE L key).isSome)) rfl rfl ?_)
 refine st (ov_alloc Try.zeroValue36 ?_)
 intro w45 b44 hn43
 have hS46 : Sep G W ((Blk b44 #[.int .i64 (0), .int .i64 (0), .int .i64 (0), (.slice none 0 0), .int .i64 (0), .int .i64 (0), .int .i64 (0), .int .i64 (0), .int .i64 (0), .int .i64 (0)] 36) :: (DepO d40 (((keyE L key).getD default).deps)) :: (Blk b34 (((getE L (o, q)).getD default).cells v28).toArray 36) :: (RowE (α := Int) own 3 v28 (((getE L (o, q)).getD default).deps)) :: (Blk b22 (((getE L (o, q)).getD default).cells v16).toArray 36) :: (RowE (α := Int) own 3 v16 (((getE L (o, q)).getD default).deps)) :: (Blk b13 #[.int .i64 (o), .int .i64 (q)] 33) :: Rs) w45 := hS42.new hn43
 refine stn (ov_store (v := .agg (((keyE L key).getD default).cells d40).toArray) (c' := (((keyE L key).getD default).cells d40).toArray) Try.sizeOf36 rfl rfl (hS46.blk (i := 0) rfl) (all1 ⟨rfl, rfl, rfl, (hS46.depSl (i := 1) rfl).one, rfl, rfl, rfl, rfl, rfl, rfl, trivial⟩) (Nat.le_of_ble_eq_true rfl) rfl ?_)
 intro w47 hp48
 have hS49 : Sep G W ((Blk b44 (((keyE L key).getD default).cells d40).toArray 36) :: (DepO d40 (((keyE L key).getD default).deps)) :: (Blk b34 (((getE L (o, q)).getD default).cells v28).toArray 36) :: (RowE (α := Int) own 3 v28 (((getE L (o, q)).getD default).deps)) :: (Blk b22 (((getE L (o, q)).getD default).cells v16).toArray 36) :: (RowE (α := Int) own 3 v16 (((getE L (o, q)).getD default).deps)) :: (Blk b13 #[.int .i64 (o), .int .i64 (q)] 33) :: Rs) w47 := hS46.put (i := 0) rfl hp48
 refine st (ov_assign (v := .bool ((keyE L key).isSome)) rfl ?_)
 refine st_nil ?_
 refine WP_seq ?_
 refine WP_region0 (by kernel_rfl) (fun _ => ?_)
 refine st (ov_move (v := .pointer (some ⟨b2, 0, none⟩)) rfl ?_)
 refine st (ov_move (v := .int .i64 (key)) rfl ?_)
 refine st (ov_call (f := 68) (vals := [.pointer (some ⟨b2, 0, none⟩), .int .i64 (key)]) (cap := []) (show _ = (.func (.func 68) #[] #[] : Value) from rfl) rfl Try.call68 (D_rKeyed (key := key) hb2 hkey hS49) ?_)
 rintro _ w52 ⟨v50, rfl, hgo51, hS53⟩
 have hr54 := hS53.row (i := 0) rfl
 have hr54s : (((keyE L key).getD default).deps).length * 8 ≤ 140737488355328 := hr54.2
 refine st (ov_move (v := .tuple #[.agg (((keyE L key).getD default).cells v50).toArray, .bool (keyE L key).isSome]) rfl ?_)
 refine st (ov_extract (vs := [.agg (((keyE L key).getD default).cells v50).toArray, .bool ((keyE L key).isSome)]) (i := 0) (v := .agg (((keyE L key).getD default).cells v50).toArray) rfl rfl ?_)
 refine st (ov_extract (vs := [.agg (((keyE L key).getD default).cells v50).toArray, .bool ((keyE L key).isSome)]) (i := 1) (v := .bool ((keyE L key).isSome)) rfl rfl ?_)
 refine st (ov_alloc Try.zeroValue36 ?_)
 intro w57 b56 hn55
 have hS58 : Sep G W ((Blk b56 #[.int .i64 (0), .int .i64 (0), .int .i64 (0), (.slice none 0 0), .int .i64 (0), .int .i64 (0), .int .i64 (0), .int .i64 (0), .int .i64 (0), .int .i64 (0)] 36) :: (RowE (α := Int) own 3 v50 (((keyE L key).getD default).deps)) :: (Blk b44 (((keyE L key).getD default).cells d40).toArray 36) :: (DepO d40 (((keyE L key).getD default).deps)) :: (Blk b34 (((getE L (o, q)).getD default).cells v28).toArray 36) :: (RowE (α := Int) own 3 v28 (((getE L (o, q)).getD default).deps)) :: (Blk b22 (((getE L (o, q)).getD default).cells v16).toArray 36) :: (RowE (α := Int) own 3 v16 (((getE L (o, q)).getD default).deps)) :: (Blk b13 #[.int .i64 (o), .int .i64 (q)] 33) :: Rs) w57 := hS53.new hn55
 refine stn (ov_store (v := .agg (((keyE L key).getD default).cells v50).toArray) (c' := (((keyE L key).getD default).cells v50).toArray) Try.sizeOf36 rfl rfl (hS58.blk (i := 0) rfl) (all1 ⟨rfl, rfl, rfl, hr54.1.one, rfl, rfl, rfl, rfl, rfl, rfl, trivial⟩) (Nat.le_of_ble_eq_true rfl) rfl ?_)
 intro w59 hp60
 have hS61 : Sep G W ((Blk b56 (((keyE L key).getD default).cells v50).toArray 36) :: (RowE (α := Int) own 3 v50 (((keyE L key).getD default).deps)) :: (Blk b44 (((keyE L key).getD default).cells d40).toArray 36) :: (DepO d40 (((keyE L key).getD default).deps)) :: (Blk b34 (((getE L (o, q)).getD default).cells v28).toArray 36) :: (RowE (α := Int) own 3 v28 (((getE L (o, q)).getD default).deps)) :: (Blk b22 (((getE L (o, q)).getD default).cells v16).toArray 36) :: (RowE (α := Int) own 3 v16 (((getE L (o, q)).getD default).deps)) :: (Blk b13 #[.int .i64 (o), .int .i64 (q)] 33) :: Rs) w59 := hS58.put (i := 0) rfl hp60
 refine st (ov_assign (v := .bool ((keyE L key).isSome)) rfl ?_)
 refine st_nil ?_
 refine WP_seq ?_
 refine WP_seq ?_
 refine WP_region (by kernel_rfl) ?_
 refine st (ov_move (v := .bool ((getE L (o, q)).isSome)) rfl ?_)
 refine st (ov_move (v := .bool ((getE L (o, q)).isSome)) rfl ?_)
 refine st (ov_neqb (a := (getE L (o, q)).isSome) (b := (getE L (o, q)).isSome) Try.underlying4 rfl rfl ?_)
 have hkn62 : (!(((getE L (o, q)).isSome) == ((getE L (o, q)).isSome))) = false := by simp
 rw [hkn62]
 refine st (ov_move (v := .bool false) rfl ?_)
 refine sty rfl rfl (ov_loadk (k := 10) Try.isAgg36 Try.sizeOf36 rfl rfl (CellsAt.all (hS61.blk (i := 6) rfl)) ?_)
 refine sty rfl rfl (ov_loadk (k := 10) Try.isAgg36 Try.sizeOf36 rfl rfl (CellsAt.all (hS61.blk (i := 4) rfl)) ?_)
 have hS63 : Sep G W ((RowE (α := Int) own 3 v16 (((getE L (o, q)).getD default).deps)) :: (Blk b56 (((keyE L key).getD default).cells v50).toArray 36) :: (RowE (α := Int) own 3 v50 (((keyE L key).getD default).deps)) :: (Blk b44 (((keyE L key).getD default).cells d40).toArray 36) :: (DepO d40 (((keyE L key).getD default).deps)) :: (Blk b34 (((getE L (o, q)).getD default).cells v28).toArray 36) :: (RowE (α := Int) own 3 v28 (((getE L (o, q)).getD default).deps)) :: (Blk b22 (((getE L (o, q)).getD default).cells v16).toArray 36) :: (Blk b13 #[.int .i64 (o), .int .i64 (q)] 33) :: Rs) w59 := hS61.sel 9 [7, 0, 1, 2, 3, 4, 5, 6, 8] (Nat.le_add_left _ _) rfl rfl
 obtain ⟨G64, hA66, hB67, hS68, hk69⟩ := hS63.lend
 have hrd70 := RowE.rd hA66
 have hrd70s : (((getE L (o, q)).getD default).deps).length * 8 ≤ 140737488355328 := hrd70.small
 have hS71 : Sep G64 w59 ((RowE (α := Int) own 3 v28 (((getE L (o, q)).getD default).deps)) :: (Blk b56 (((keyE L key).getD default).cells v50).toArray 36) :: (RowE (α := Int) own 3 v50 (((keyE L key).getD default).deps)) :: (Blk b44 (((keyE L key).getD default).cells d40).toArray 36) :: (DepO d40 (((keyE L key).getD default).deps)) :: (Blk b34 (((getE L (o, q)).getD default).cells v28).toArray 36) :: (Blk b22 (((getE L (o, q)).getD default).cells v16).toArray 36) :: (Blk b13 #[.int .i64 (o), .int .i64 (q)] 33) :: Rs) w59 := hS68.sel 8 [5, 0, 1, 2, 3, 4, 6, 7] (Nat.le_add_left _ _) rfl rfl
 obtain ⟨G72, hA74, hB75, hS76, hk77⟩ := hS71.lend
 have hrd78 := RowE.rd hA74
 have hrd78s : (((getE L (o, q)).getD default).deps).length * 8 ≤ 140737488355328 := hrd78.small
 refine sty rfl rfl (ov_call (f := 30) (vals := [.agg (((getE L (o, q)).getD default).cells v16).toArray, .agg (((getE L (o, q)).getD default).cells v28).toArray]) (cap := []) (show _ = (.func (.func 30) #[] #[] : Value) from rfl) rfl Try.call30 (D_sameEvent (a := ((getE L (o, q)).getD default)) (b := ((getE L (o, q)).getD default)) (RdS.base hrd70 hB75) hgo29 hrd78 hgo29 hS76) ?_)
 rintro _ w79 ⟨rfl, hS80⟩
 have hS81 : Sep G64 w59 ((RowE (α := Int) own 3 v28 (((getE L (o, q)).getD default).deps)) :: (Blk b56 (((keyE L key).getD default).cells v50).toArray 36) :: (RowE (α := Int) own 3 v50 (((keyE L key).getD default).deps)) :: (Blk b44 (((keyE L key).getD default).cells d40).toArray 36) :: (DepO d40 (((keyE L key).getD default).deps)) :: (Blk b34 (((getE L (o, q)).getD default).cells v28).toArray 36) :: (Blk b22 (((getE L (o, q)).getD default).cells v16).toArray 36) :: (Blk b13 #[.int .i64 (o), .int .i64 (q)] 33) :: Rs) w79 := hk77 _ _ hS80
 have hS82 : Sep G W ((RowE (α := Int) own 3 v16 (((getE L (o, q)).getD default).deps)) :: (RowE (α := Int) own 3 v28 (((getE L (o, q)).getD default).deps)) :: (Blk b56 (((keyE L key).getD default).cells v50).toArray 36) :: (RowE (α := Int) own 3 v50 (((keyE L key).getD default).deps)) :: (Blk b44 (((keyE L key).getD default).cells d40).toArray 36) :: (DepO d40 (((keyE L key).getD default).deps)) :: (Blk b34 (((getE L (o, q)).getD default).cells v28).toArray 36) :: (Blk b22 (((getE L (o, q)).getD default).cells v16).toArray 36) :: (Blk b13 #[.int .i64 (o), .int .i64 (q)] 33) :: Rs) w79 := hk69 _ _ hS81
 have hkn83 : (decide (((getE L (o, q)).getD default) = ((getE L (o, q)).getD default))) = true := decide_eq_true rfl
 rw [hkn83]
 refine sty rfl rfl (ov_not (a := true) rfl ?_)
 refine st (ov_pick_f (v := .bool false) rfl rfl ?_)
 refine st (ov_move (v := .bool false) rfl ?_)
 refine sty rfl rfl (ov_move (v := .bool ((keyE L key).isSome)) rfl ?_)
 refine sty rfl rfl (ov_move (v := .bool ((keyE L key).isSome)) rfl ?_)
 refine sty rfl rfl (ov_neqb (a := (keyE L key).isSome) (b := (keyE L key).isSome) Try.underlying4 rfl rfl ?_)
 have hkn84 : (!(((keyE L key).isSome) == ((keyE L key).isSome))) = false := by simp
 rw [hkn84]
 refine st (ov_pick_f (v := .bool false) rfl rfl ?_)
 refine st (ov_move (v := .bool false) rfl ?_)
 refine sty rfl rfl (ov_loadk (k := 10) Try.isAgg36 Try.sizeOf36 rfl rfl (CellsAt.all (hS82.blk (i := 4) rfl)) ?_)
 refine sty rfl rfl (ov_loadk (k := 10) Try.isAgg36 Try.sizeOf36 rfl rfl (CellsAt.all (hS82.blk (i := 2) rfl)) ?_)
 have hS85 : Sep G W ((DepO d40 (((keyE L key).getD default).deps)) :: (RowE (α := Int) own 3 v16 (((getE L (o, q)).getD default).deps)) :: (RowE (α := Int) own 3 v28 (((getE L (o, q)).getD default).deps)) :: (Blk b56 (((keyE L key).getD default).cells v50).toArray 36) :: (RowE (α := Int) own 3 v50 (((keyE L key).getD default).deps)) :: (Blk b44 (((keyE L key).getD default).cells d40).toArray 36) :: (Blk b34 (((getE L (o, q)).getD default).cells v28).toArray 36) :: (Blk b22 (((getE L (o, q)).getD default).cells v16).toArray 36) :: (Blk b13 #[.int .i64 (o), .int .i64 (q)] 33) :: Rs) w79 := hS82.sel 9 [5, 0, 1, 2, 3, 4, 6, 7, 8] (Nat.le_add_left _ _) rfl rfl
 obtain ⟨G86, hA88, hB89, hS90, hk91⟩ := hS85.lend
 have hd92 := DepO.rd hA88
 have hsm93 : (((keyE L key).getD default).deps).length * 8 ≤ 140737488355328 := hd92.small
 have hS94 : Sep G86 w79 ((RowE (α := Int) own 3 v50 (((keyE L key).getD default).deps)) :: (RowE (α := Int) own 3 v16 (((getE L (o, q)).getD default).deps)) :: (RowE (α := Int) own 3 v28 (((getE L (o, q)).getD default).deps)) :: (Blk b56 (((keyE L key).getD default).cells v50).toArray 36) :: (Blk b44 (((keyE L key).getD default).cells d40).toArray 36) :: (Blk b34 (((getE L (o, q)).getD default).cells v28).toArray 36) :: (Blk b22 (((getE L (o, q)).getD default).cells v16).toArray 36) :: (Blk b13 #[.int .i64 (o), .int .i64 (q)] 33) :: Rs) w79 := hS90.sel 8 [3, 0, 1, 2, 4, 5, 6, 7] (Nat.le_add_left _ _) rfl rfl
 obtain ⟨G95, hA97, hB98, hS99, hk100⟩ := hS94.lend
 have hrd101 := RowE.rd hA97
 have hrd101s : (((keyE L key).getD default).deps).length * 8 ≤ 140737488355328 := hrd101.small
 refine sty rfl rfl (ov_call (f := 30) (vals := [.agg (((keyE L key).getD default).cells d40).toArray, .agg (((keyE L key).getD default).cells v50).toArray]) (cap := []) (show _ = (.func (.func 30) #[] #[] : Value) from rfl) rfl Try.call30 (D_sameEvent (a := ((keyE L key).getD default)) (b := ((keyE L key).getD default)) (RdS.base hd92 hB98) hgo51 hrd101 hgo51 hS99) ?_)
 rintro _ w102 ⟨rfl, hS103⟩
 have hS104 : Sep G86 w79 ((RowE (α := Int) own 3 v50 (((keyE L key).getD default).deps)) :: (RowE (α := Int) own 3 v16 (((getE L (o, q)).getD default).deps)) :: (RowE (α := Int) own 3 v28 (((getE L (o, q)).getD default).deps)) :: (Blk b56 (((keyE L key).getD default).cells v50).toArray 36) :: (Blk b44 (((keyE L key).getD default).cells d40).toArray 36) :: (Blk b34 (((getE L (o, q)).getD default).cells v28).toArray 36) :: (Blk b22 (((getE L (o, q)).getD default).cells v16).toArray 36) :: (Blk b13 #[.int .i64 (o), .int .i64 (q)] 33) :: Rs) w102 := hk100 _ _ hS103
 have hS105 : Sep G W ((DepO d40 (((keyE L key).getD default).deps)) :: (RowE (α := Int) own 3 v50 (((keyE L key).getD default).deps)) :: (RowE (α := Int) own 3 v16 (((getE L (o, q)).getD default).deps)) :: (RowE (α := Int) own 3 v28 (((getE L (o, q)).getD default).deps)) :: (Blk b56 (((keyE L key).getD default).cells v50).toArray 36) :: (Blk b44 (((keyE L key).getD default).cells d40).toArray 36) :: (Blk b34 (((getE L (o, q)).getD default).cells v28).toArray 36) :: (Blk b22 (((getE L (o, q)).getD default).cells v16).toArray 36) :: (Blk b13 #[.int .i64 (o), .int .i64 (q)] 33) :: Rs) w102 := hk91 _ _ hS104
 have hkn106 : (decide (((keyE L key).getD default) = ((keyE L key).getD default))) = true := decide_eq_true rfl
 rw [hkn106]
 refine sty rfl rfl (ov_not (a := true) rfl ?_)
 refine st (ov_pick_f (v := .bool false) rfl rfl ?_)
 refine st (ov_move (v := .bool false) rfl ?_)
 refine sty rfl rfl (ov_move (v := .pointer (some ⟨b, 0, none⟩)) rfl ?_)
 refine sty rfl rfl (ov_call (f := 24) (vals := [.pointer (some ⟨b, 0, none⟩)]) (cap := []) (show _ = (.func (.func 24) #[] #[] : Value) from rfl) rfl Try.call24 (D_Len  hb hS105 (hG.ids)) ?_)
 rintro _ w107 ⟨rfl, hS108⟩
 refine sty rfl rfl (ov_move (v := .pointer (some ⟨b2, 0, none⟩)) rfl ?_)
 refine sty rfl rfl (ov_call (f := 69) (vals := [.pointer (some ⟨b2, 0, none⟩)]) (cap := []) (show _ = (.func (.func 69) #[] #[] : Value) from rfl) rfl Try.call69 (D_rLen  hb2 hS108) ?_)
 rintro _ w109 ⟨rfl, hS110⟩
 refine sty rfl rfl (ov_neq (k := .i64) (a := ((L.length : Nat) : Int)) (b := ((L.length : Nat) : Int)) rfl rfl ?_)
 have hkn111 : (!decide (((L.length : Nat) : Int) = ((L.length : Nat) : Int))) = false := by simp
 rw [hkn111]
 refine st (ov_pick_f (v := .bool false) rfl rfl ?_)
 refine st (ov_move (v := .bool false) rfl ?_)
 refine sty rfl rfl (ov_move (v := .pointer (some ⟨b, 0, none⟩)) rfl ?_)
 refine sty rfl rfl (ov_call (f := 23) (vals := [.pointer (some ⟨b, 0, none⟩)]) (cap := []) (show _ = (.func (.func 23) #[] #[] : Value) from rfl) rfl Try.call23 (D_Top  hb hS110) ?_)
 rintro _ w112 ⟨rfl, hS113⟩
 refine sty rfl rfl (ov_move (v := .pointer (some ⟨b2, 0, none⟩)) rfl ?_)
 refine sty rfl rfl (ov_call (f := 70) (vals := [.pointer (some ⟨b2, 0, none⟩)]) (cap := []) (show _ = (.func (.func 70) #[] #[] : Value) from rfl) rfl Try.call70 (D_rTop  hb2 hS113 (hG)) ?_)
 rintro _ w115 ⟨rfl, hin114, hS116⟩
 refine sty rfl rfl (ov_neq (k := .i64) (a := topE L) (b := (topE L)) rfl rfl ?_)
 have hkn117 : (!decide ((topE L) = (topE L))) = false := by simp
 rw [hkn117]
 refine st (ov_pick_f (v := .bool false) rfl rfl ?_)
 refine st_nil ?_
 refine WP_cond_f rfl ?_
 refine WP_skip ?_
 refine WP_seq ?_
 refine WP_region0 (by kernel_rfl) (fun _ => ?_)
 refine st (ov_move (v := .pointer (some ⟨b, 0, none⟩)) rfl ?_)
 refine st (ov_call (f := 26) (vals := [.pointer (some ⟨b, 0, none⟩)]) (cap := []) (show _ = (.func (.func 26) #[] #[] : Value) from rfl) rfl Try.call26 (D_Vec  hb hS116) ?_)
 rintro v118 w119 ⟨_, rfl, hS120⟩
 have hr121 := hS120.row (i := 0) rfl
 have hr121s : (vecE n L).length * 8 ≤ 140737488355328 := hr121.2
 refine st (ov_assign (v := v118) rfl ?_)
 refine st_nil ?_
 refine WP_seq ?_
 refine WP_region0 (by kernel_rfl) (fun _ => ?_)
 refine st (ov_move (v := .pointer (some ⟨b, 0, none⟩)) rfl ?_)
 refine st (ov_call (f := 19) (vals := [.pointer (some ⟨b, 0, none⟩)]) (cap := []) (show _ = (.func (.func 19) #[] #[] : Value) from rfl) rfl Try.call19 (D_All  hb hS120 (hG.ids) (hG.srt) (hL)) ?_)
 rintro v122 w123 ⟨_, rfl, hS124⟩
 have hr125 := hS124.row (i := 0) rfl
 have hr125s : L.length * 96 ≤ 140737488355328 := hr125.2
 refine st (ov_assign (v := v122) rfl ?_)
 refine st_nil ?_
 refine WP_seq ?_
 refine WP_region0 (by kernel_rfl) (fun _ => ?_)
 refine st (ov_move (v := .pointer (some ⟨b, 0, none⟩)) rfl ?_)
 refine st (ov_move (v := vvec) rfl ?_)
 refine st (ov_move (v := .int .i64 (most)) rfl ?_)
 refine st (ov_call (f := 25) (vals := [.pointer (some ⟨b, 0, none⟩), vvec, .int .i64 (most)]) (cap := []) (show _ = (.func (.func 25) #[] #[] : Value) from rfl) rfl Try.call25 (D_Missing (l := vec) (vl := vvec) (most := most) hb hvec hmost hS124 (hG.ids) (hG.srt) (hL)) ?_)
 rintro v126 w127 ⟨_, rfl, hS128⟩
 have hr129 := hS128.row (i := 0) rfl
 have hr129s : (missL L vec most).length * 96 ≤ 140737488355328 := hr129.2
 refine st (ov_assign (v := v126) rfl ?_)
 refine st_nil ?_
 refine WP_seq ?_
 refine WP_region (by kernel_rfl) ?_
 refine st (ov_move (v := v118) rfl ?_)
 refine st (ov_move (v := .pointer (some ⟨b2, 0, none⟩)) rfl ?_)
 refine st (ov_call (f := 51) (vals := [.pointer (some ⟨b2, 0, none⟩)]) (cap := []) (show _ = (.func (.func 51) #[] #[] : Value) from rfl) rfl Try.call51 (D_rVec  hb2 hS128 (hG) (hn)) ?_)
 rintro v130 w131 ⟨_, rfl, hS132⟩
 have hr133 := hS132.row (i := 0) rfl
 have hr133s : (vecE n L).length * 8 ≤ 140737488355328 := hr133.2
 have hS134 : Sep G W ((RowE (α := Int) own 3 v118 (vecE n L)) :: (RowE (α := Int) own 3 v130 (vecE n L)) :: (RowE (α := Ev) own 36 v126 (missL L vec most)) :: (RowE (α := Ev) own 36 v122 L) :: (DepO d40 (((keyE L key).getD default).deps)) :: (RowE (α := Int) own 3 v50 (((keyE L key).getD default).deps)) :: (RowE (α := Int) own 3 v16 (((getE L (o, q)).getD default).deps)) :: (RowE (α := Int) own 3 v28 (((getE L (o, q)).getD default).deps)) :: (Blk b56 (((keyE L key).getD default).cells v50).toArray 36) :: (Blk b44 (((keyE L key).getD default).cells d40).toArray 36) :: (Blk b34 (((getE L (o, q)).getD default).cells v28).toArray 36) :: (Blk b22 (((getE L (o, q)).getD default).cells v16).toArray 36) :: (Blk b13 #[.int .i64 (o), .int .i64 (q)] 33) :: Rs) w131 := hS132.sel 13 [3, 0, 1, 2, 4, 5, 6, 7, 8, 9, 10, 11, 12] (Nat.le_add_left _ _) rfl rfl
 obtain ⟨G135, hA137, hB138, hS139, hk140⟩ := hS134.lend
 have hrd141 := RowE.rd hA137
 have hrd141s : (vecE n L).length * 8 ≤ 140737488355328 := hrd141.small
 obtain ⟨G142, hA144, hB145, hS146, hk147⟩ := hS139.lend
 have hrd148 := RowE.rd hA144
 have hrd148s : (vecE n L).length * 8 ≤ 140737488355328 := hrd148.small
 refine st (ov_call (f := 27) (vals := [v118, v130]) (cap := []) (show _ = (.func (.func 27) #[] #[] : Value) from rfl) rfl Try.call27 (D_SameInts (a := vecE n L) (va := v118) (b := vecE n L) (vb := v130) (RdS.base hrd141 hB145) hrd148 hS146) ?_)
 rintro _ w149 ⟨rfl, hS150⟩
 have hS151 : Sep G135 w131 ((RowE (α := Int) own 3 v130 (vecE n L)) :: (RowE (α := Ev) own 36 v126 (missL L vec most)) :: (RowE (α := Ev) own 36 v122 L) :: (DepO d40 (((keyE L key).getD default).deps)) :: (RowE (α := Int) own 3 v50 (((keyE L key).getD default).deps)) :: (RowE (α := Int) own 3 v16 (((getE L (o, q)).getD default).deps)) :: (RowE (α := Int) own 3 v28 (((getE L (o, q)).getD default).deps)) :: (Blk b56 (((keyE L key).getD default).cells v50).toArray 36) :: (Blk b44 (((keyE L key).getD default).cells d40).toArray 36) :: (Blk b34 (((getE L (o, q)).getD default).cells v28).toArray 36) :: (Blk b22 (((getE L (o, q)).getD default).cells v16).toArray 36) :: (Blk b13 #[.int .i64 (o), .int .i64 (q)] 33) :: Rs) w149 := hk147 _ _ hS150
 have hS152 : Sep G W ((RowE (α := Int) own 3 v118 (vecE n L)) :: (RowE (α := Int) own 3 v130 (vecE n L)) :: (RowE (α := Ev) own 36 v126 (missL L vec most)) :: (RowE (α := Ev) own 36 v122 L) :: (DepO d40 (((keyE L key).getD default).deps)) :: (RowE (α := Int) own 3 v50 (((keyE L key).getD default).deps)) :: (RowE (α := Int) own 3 v16 (((getE L (o, q)).getD default).deps)) :: (RowE (α := Int) own 3 v28 (((getE L (o, q)).getD default).deps)) :: (Blk b56 (((keyE L key).getD default).cells v50).toArray 36) :: (Blk b44 (((keyE L key).getD default).cells d40).toArray 36) :: (Blk b34 (((getE L (o, q)).getD default).cells v28).toArray 36) :: (Blk b22 (((getE L (o, q)).getD default).cells v16).toArray 36) :: (Blk b13 #[.int .i64 (o), .int .i64 (q)] 33) :: Rs) w149 := hk140 _ _ hS151
 have hkn153 : (decide ((vecE n L) = (vecE n L))) = true := decide_eq_true rfl
 rw [hkn153]
 refine st (ov_move (v := .bool true) rfl ?_)
 refine sty rfl rfl (ov_move (v := v122) rfl ?_)
 refine sty rfl rfl (ov_move (v := .pointer (some ⟨b2, 0, none⟩)) rfl ?_)
 refine sty rfl rfl (ov_call (f := 50) (vals := [.pointer (some ⟨b2, 0, none⟩)]) (cap := []) (show _ = (.func (.func 50) #[] #[] : Value) from rfl) rfl Try.call50 (D_rAll  hb2 hS152) ?_)
 rintro v154 w155 ⟨_, rfl, hS156⟩
 have hr157 := hS156.row (i := 0) rfl
 have hr157s : L.length * 96 ≤ 140737488355328 := hr157.2
 have hS158 : Sep G W ((RowE (α := Ev) own 36 v122 L) :: (RowE (α := Ev) own 36 v154 L) :: (RowE (α := Int) own 3 v118 (vecE n L)) :: (RowE (α := Int) own 3 v130 (vecE n L)) :: (RowE (α := Ev) own 36 v126 (missL L vec most)) :: (DepO d40 (((keyE L key).getD default).deps)) :: (RowE (α := Int) own 3 v50 (((keyE L key).getD default).deps)) :: (RowE (α := Int) own 3 v16 (((getE L (o, q)).getD default).deps)) :: (RowE (α := Int) own 3 v28 (((getE L (o, q)).getD default).deps)) :: (Blk b56 (((keyE L key).getD default).cells v50).toArray 36) :: (Blk b44 (((keyE L key).getD default).cells d40).toArray 36) :: (Blk b34 (((getE L (o, q)).getD default).cells v28).toArray 36) :: (Blk b22 (((getE L (o, q)).getD default).cells v16).toArray 36) :: (Blk b13 #[.int .i64 (o), .int .i64 (q)] 33) :: Rs) w155 := hS156.sel 14 [4, 0, 1, 2, 3, 5, 6, 7, 8, 9, 10, 11, 12, 13] (Nat.le_add_left _ _) rfl rfl
 obtain ⟨G159, hA161, hB162, hS163, hk164⟩ := hS158.lend
 have hrd165 := RowE.rd hA161
 have hrd165s : L.length * 96 ≤ 140737488355328 := hrd165.small
 obtain ⟨G166, hA168, hB169, hS170, hk171⟩ := hS163.lend
 have hrd172 := RowE.rd hA168
 have hrd172s : L.length * 96 ≤ 140737488355328 := hrd172.small
 refine sty rfl rfl (ov_call (f := 22) (vals := [v122, v154]) (cap := []) (show _ = (.func (.func 22) #[] #[] : Value) from rfl) rfl Try.call22 (D_sameEvents (a := L) (va := v122) (b := L) (vb := v154) (RdS.base hrd165 hB169) hrd172 hS170) ?_)
 rintro _ w173 ⟨rfl, hS174⟩
 have hS175 : Sep G159 w155 ((RowE (α := Ev) own 36 v154 L) :: (RowE (α := Int) own 3 v118 (vecE n L)) :: (RowE (α := Int) own 3 v130 (vecE n L)) :: (RowE (α := Ev) own 36 v126 (missL L vec most)) :: (DepO d40 (((keyE L key).getD default).deps)) :: (RowE (α := Int) own 3 v50 (((keyE L key).getD default).deps)) :: (RowE (α := Int) own 3 v16 (((getE L (o, q)).getD default).deps)) :: (RowE (α := Int) own 3 v28 (((getE L (o, q)).getD default).deps)) :: (Blk b56 (((keyE L key).getD default).cells v50).toArray 36) :: (Blk b44 (((keyE L key).getD default).cells d40).toArray 36) :: (Blk b34 (((getE L (o, q)).getD default).cells v28).toArray 36) :: (Blk b22 (((getE L (o, q)).getD default).cells v16).toArray 36) :: (Blk b13 #[.int .i64 (o), .int .i64 (q)] 33) :: Rs) w173 := hk171 _ _ hS174
 have hS176 : Sep G W ((RowE (α := Ev) own 36 v122 L) :: (RowE (α := Ev) own 36 v154 L) :: (RowE (α := Int) own 3 v118 (vecE n L)) :: (RowE (α := Int) own 3 v130 (vecE n L)) :: (RowE (α := Ev) own 36 v126 (missL L vec most)) :: (DepO d40 (((keyE L key).getD default).deps)) :: (RowE (α := Int) own 3 v50 (((keyE L key).getD default).deps)) :: (RowE (α := Int) own 3 v16 (((getE L (o, q)).getD default).deps)) :: (RowE (α := Int) own 3 v28 (((getE L (o, q)).getD default).deps)) :: (Blk b56 (((keyE L key).getD default).cells v50).toArray 36) :: (Blk b44 (((keyE L key).getD default).cells d40).toArray 36) :: (Blk b34 (((getE L (o, q)).getD default).cells v28).toArray 36) :: (Blk b22 (((getE L (o, q)).getD default).cells v16).toArray 36) :: (Blk b13 #[.int .i64 (o), .int .i64 (q)] 33) :: Rs) w173 := hk164 _ _ hS175
 have hkn177 : (decide (L = L)) = true := decide_eq_true rfl
 rw [hkn177]
 refine st (ov_pick_t (v := .bool true) rfl rfl ?_)
 refine st (ov_move (v := .bool true) rfl ?_)
 refine sty rfl rfl (ov_move (v := v126) rfl ?_)
 refine sty rfl rfl (ov_move (v := .pointer (some ⟨b2, 0, none⟩)) rfl ?_)
 refine sty rfl rfl (ov_move (v := vvec) rfl ?_)
 refine sty rfl rfl (ov_move (v := .int .i64 (most)) rfl ?_)
 refine sty rfl rfl (ov_call (f := 71) (vals := [.pointer (some ⟨b2, 0, none⟩), vvec, .int .i64 (most)]) (cap := []) (show _ = (.func (.func 71) #[] #[] : Value) from rfl) rfl Try.call71 (D_rMissing (l := vec) (vl := vvec) (most := most) hb2 hvec hmost hS176 (hG)) ?_)
 rintro v178 w179 ⟨_, rfl, hS180⟩
 have hr181 := hS180.row (i := 0) rfl
 have hr181s : (missL L vec most).length * 96 ≤ 140737488355328 := hr181.2
 have hS182 : Sep G W ((RowE (α := Ev) own 36 v126 (missL L vec most)) :: (RowE (α := Ev) own 36 v178 (missL L vec most)) :: (RowE (α := Ev) own 36 v122 L) :: (RowE (α := Ev) own 36 v154 L) :: (RowE (α := Int) own 3 v118 (vecE n L)) :: (RowE (α := Int) own 3 v130 (vecE n L)) :: (DepO d40 (((keyE L key).getD default).deps)) :: (RowE (α := Int) own 3 v50 (((keyE L key).getD default).deps)) :: (RowE (α := Int) own 3 v16 (((getE L (o, q)).getD default).deps)) :: (RowE (α := Int) own 3 v28 (((getE L (o, q)).getD default).deps)) :: (Blk b56 (((keyE L key).getD default).cells v50).toArray 36) :: (Blk b44 (((keyE L key).getD default).cells d40).toArray 36) :: (Blk b34 (((getE L (o, q)).getD default).cells v28).toArray 36) :: (Blk b22 (((getE L (o, q)).getD default).cells v16).toArray 36) :: (Blk b13 #[.int .i64 (o), .int .i64 (q)] 33) :: Rs) w179 := hS180.sel 15 [5, 0, 1, 2, 3, 4, 6, 7, 8, 9, 10, 11, 12, 13, 14] (Nat.le_add_left _ _) rfl rfl
 obtain ⟨G183, hA185, hB186, hS187, hk188⟩ := hS182.lend
 have hrd189 := RowE.rd hA185
 have hrd189s : (missL L vec most).length * 96 ≤ 140737488355328 := hrd189.small
 obtain ⟨G190, hA192, hB193, hS194, hk195⟩ := hS187.lend
 have hrd196 := RowE.rd hA192
 have hrd196s : (missL L vec most).length * 96 ≤ 140737488355328 := hrd196.small
 refine sty rfl rfl (ov_call (f := 22) (vals := [v126, v178]) (cap := []) (show _ = (.func (.func 22) #[] #[] : Value) from rfl) rfl Try.call22 (D_sameEvents (a := missL L vec most) (va := v126) (b := (missL L vec most)) (vb := v178) (RdS.base hrd189 hB193) hrd196 hS194) ?_)
 rintro _ w197 ⟨rfl, hS198⟩
 have hS199 : Sep G183 w179 ((RowE (α := Ev) own 36 v178 (missL L vec most)) :: (RowE (α := Ev) own 36 v122 L) :: (RowE (α := Ev) own 36 v154 L) :: (RowE (α := Int) own 3 v118 (vecE n L)) :: (RowE (α := Int) own 3 v130 (vecE n L)) :: (DepO d40 (((keyE L key).getD default).deps)) :: (RowE (α := Int) own 3 v50 (((keyE L key).getD default).deps)) :: (RowE (α := Int) own 3 v16 (((getE L (o, q)).getD default).deps)) :: (RowE (α := Int) own 3 v28 (((getE L (o, q)).getD default).deps)) :: (Blk b56 (((keyE L key).getD default).cells v50).toArray 36) :: (Blk b44 (((keyE L key).getD default).cells d40).toArray 36) :: (Blk b34 (((getE L (o, q)).getD default).cells v28).toArray 36) :: (Blk b22 (((getE L (o, q)).getD default).cells v16).toArray 36) :: (Blk b13 #[.int .i64 (o), .int .i64 (q)] 33) :: Rs) w197 := hk195 _ _ hS198
 have hS200 : Sep G W ((RowE (α := Ev) own 36 v126 (missL L vec most)) :: (RowE (α := Ev) own 36 v178 (missL L vec most)) :: (RowE (α := Ev) own 36 v122 L) :: (RowE (α := Ev) own 36 v154 L) :: (RowE (α := Int) own 3 v118 (vecE n L)) :: (RowE (α := Int) own 3 v130 (vecE n L)) :: (DepO d40 (((keyE L key).getD default).deps)) :: (RowE (α := Int) own 3 v50 (((keyE L key).getD default).deps)) :: (RowE (α := Int) own 3 v16 (((getE L (o, q)).getD default).deps)) :: (RowE (α := Int) own 3 v28 (((getE L (o, q)).getD default).deps)) :: (Blk b56 (((keyE L key).getD default).cells v50).toArray 36) :: (Blk b44 (((keyE L key).getD default).cells d40).toArray 36) :: (Blk b34 (((getE L (o, q)).getD default).cells v28).toArray 36) :: (Blk b22 (((getE L (o, q)).getD default).cells v16).toArray 36) :: (Blk b13 #[.int .i64 (o), .int .i64 (q)] 33) :: Rs) w197 := hk188 _ _ hS199
 have hkn201 : (decide ((missL L vec most) = (missL L vec most))) = true := decide_eq_true rfl
 rw [hkn201]
 refine st (ov_pick_t (v := .bool true) rfl rfl ?_)
 refine st (ov_assign (v := .bool true) rfl ?_)
 refine st_nil ?_
 refine WP_seq ?_
 refine WP_region0 (by kernel_rfl) (fun _ => ?_)
 refine st (fd36_2 rfl ?_)
 refine st (ov_load1 (v := v16) Try.isAgg34 rfl (blk_cellL (hS200.blk (i := 13) rfl) rfl) ?_)
 have hS202 : Sep G W ((RowE (α := Int) own 3 v16 (((getE L (o, q)).getD default).deps)) :: (RowE (α := Ev) own 36 v126 (missL L vec most)) :: (RowE (α := Ev) own 36 v178 (missL L vec most)) :: (RowE (α := Ev) own 36 v122 L) :: (RowE (α := Ev) own 36 v154 L) :: (RowE (α := Int) own 3 v118 (vecE n L)) :: (RowE (α := Int) own 3 v130 (vecE n L)) :: (DepO d40 (((keyE L key).getD default).deps)) :: (RowE (α := Int) own 3 v50 (((keyE L key).getD default).deps)) :: (RowE (α := Int) own 3 v28 (((getE L (o, q)).getD default).deps)) :: (Blk b56 (((keyE L key).getD default).cells v50).toArray 36) :: (Blk b44 (((keyE L key).getD default).cells d40).toArray 36) :: (Blk b34 (((getE L (o, q)).getD default).cells v28).toArray 36) :: (Blk b22 (((getE L (o, q)).getD default).cells v16).toArray 36) :: (Blk b13 #[.int .i64 (o), .int .i64 (q)] 33) :: Rs) w197 := hS200.sel 15 [8, 0, 1, 2, 3, 4, 5, 6, 7, 9, 10, 11, 12, 13, 14] (Nat.le_add_left _ _) rfl rfl
 obtain ⟨f203, hm204, hS205⟩ := hS202.toML
 refine st (ov_call (f := 37) (vals := [v16]) (cap := []) (show _ = (.func (.func 37) #[] #[] : Value) from rfl) rfl Try.call37 (D_SpoilInts  hm204 hS205) ?_)
 rintro _ w206 ⟨rfl, hS207⟩
 refine st_nil ?_
 refine WP_seq ?_
 refine WP_region0 (by kernel_rfl) (fun _ => ?_)
 refine st (ov_move (v := v118) rfl ?_)
 have hS208 : Sep G W ((RowE (α := Int) own 3 v118 (vecE n L)) :: (ML w197 f203 noX) :: (RowE (α := Ev) own 36 v126 (missL L vec most)) :: (RowE (α := Ev) own 36 v178 (missL L vec most)) :: (RowE (α := Ev) own 36 v122 L) :: (RowE (α := Ev) own 36 v154 L) :: (RowE (α := Int) own 3 v130 (vecE n L)) :: (DepO d40 (((keyE L key).getD default).deps)) :: (RowE (α := Int) own 3 v50 (((keyE L key).getD default).deps)) :: (RowE (α := Int) own 3 v28 (((getE L (o, q)).getD default).deps)) :: (Blk b56 (((keyE L key).getD default).cells v50).toArray 36) :: (Blk b44 (((keyE L key).getD default).cells d40).toArray 36) :: (Blk b34 (((getE L (o, q)).getD default).cells v28).toArray 36) :: (Blk b22 (((getE L (o, q)).getD default).cells v16).toArray 36) :: (Blk b13 #[.int .i64 (o), .int .i64 (q)] 33) :: Rs) w206 := hS207.sel 15 [5, 0, 1, 2, 3, 4, 6, 7, 8, 9, 10, 11, 12, 13, 14] (Nat.le_add_left _ _) rfl rfl
 obtain ⟨f209, hm210, hS211⟩ := hS208.toML
 refine st (ov_call (f := 37) (vals := [v118]) (cap := []) (show _ = (.func (.func 37) #[] #[] : Value) from rfl) rfl Try.call37 (D_SpoilInts  hm210 hS211) ?_)
 rintro _ w212 ⟨rfl, hS213⟩
 refine st_nil ?_
 refine WP_seq ?_
 refine WP_region0 (by kernel_rfl) (fun _ => ?_)
 refine st (ov_move (v := v122) rfl ?_)
 have hS214 : Sep G W ((RowE (α := Ev) own 36 v122 L) :: (ML w206 f209 noX) :: (ML w197 f203 noX) :: (RowE (α := Ev) own 36 v126 (missL L vec most)) :: (RowE (α := Ev) own 36 v178 (missL L vec most)) :: (RowE (α := Ev) own 36 v154 L) :: (RowE (α := Int) own 3 v130 (vecE n L)) :: (DepO d40 (((keyE L key).getD default).deps)) :: (RowE (α := Int) own 3 v50 (((keyE L key).getD default).deps)) :: (RowE (α := Int) own 3 v28 (((getE L (o, q)).getD default).deps)) :: (Blk b56 (((keyE L key).getD default).cells v50).toArray 36) :: (Blk b44 (((keyE L key).getD default).cells d40).toArray 36) :: (Blk b34 (((getE L (o, q)).getD default).cells v28).toArray 36) :: (Blk b22 (((getE L (o, q)).getD default).cells v16).toArray 36) :: (Blk b13 #[.int .i64 (o), .int .i64 (q)] 33) :: Rs) w212 := hS213.sel 15 [4, 0, 1, 2, 3, 5, 6, 7, 8, 9, 10, 11, 12, 13, 14] (Nat.le_add_left _ _) rfl rfl
 obtain ⟨f215, hm216, hS217⟩ := hS214.toML
 refine st (ov_call (f := 45) (vals := [v122]) (cap := []) (show _ = (.func (.func 45) #[] #[] : Value) from rfl) rfl Try.call45 (D_SpoilEvents  hm216 hS217) ?_)
 rintro _ w218 ⟨rfl, hS219⟩
 refine st_nil ?_
 refine WP_seq ?_
 refine WP_region0 (by kernel_rfl) (fun _ => ?_)
 refine st (ov_move (v := v126) rfl ?_)
 have hS220 : Sep G W ((RowE (α := Ev) own 36 v126 (missL L vec most)) :: (ML w206 f209 noX) :: (ML w197 f203 noX) :: (RowE (α := Ev) own 36 v178 (missL L vec most)) :: (RowE (α := Ev) own 36 v154 L) :: (RowE (α := Int) own 3 v130 (vecE n L)) :: (DepO d40 (((keyE L key).getD default).deps)) :: (RowE (α := Int) own 3 v50 (((keyE L key).getD default).deps)) :: (RowE (α := Int) own 3 v28 (((getE L (o, q)).getD default).deps)) :: (Blk b56 (((keyE L key).getD default).cells v50).toArray 36) :: (Blk b44 (((keyE L key).getD default).cells d40).toArray 36) :: (Blk b34 (((getE L (o, q)).getD default).cells v28).toArray 36) :: (Blk b22 (((getE L (o, q)).getD default).cells v16).toArray 36) :: (Blk b13 #[.int .i64 (o), .int .i64 (q)] 33) :: Rs) w218 := hS219.sel 14 [2, 0, 1, 3, 4, 5, 6, 7, 8, 9, 10, 11, 12, 13] (Nat.le_add_left _ _) rfl rfl
 obtain ⟨f221, hm222, hS223⟩ := hS220.toML
 refine st (ov_call (f := 45) (vals := [v126]) (cap := []) (show _ = (.func (.func 45) #[] #[] : Value) from rfl) rfl Try.call45 (D_SpoilEvents  hm222 hS223) ?_)
 rintro _ w224 ⟨rfl, hS225⟩
 refine st_nil ?_
 refine WP_seq ?_
 refine WP_region0 (by kernel_rfl) (fun _ => ?_)
 refine st (ov_move (v := .bool true) rfl ?_)
 refine st (ov_assign (v := .bool true) rfl ?_)
 refine st_nil ?_
 refine WP_ret ?_
 refine fin1 Try.results38 (show _ = (.bool true : Value) from rfl) ?_
 have hS226 : Sep G W Rs w224 := hS225.sel 13 [] (Nat.le_add_left _ _) rfl rfl
 refine ⟨rfl, hS226⟩

end Go.Proofs.Ytgjgmojjeehieaa
end

section
/- Steps of the proofs of this seat: part B7. -/
set_option linter.unusedSimpArgs false
set_option linter.unusedVariables false
set_option maxRecDepth 8000
set_option maxHeartbeats 4000000
namespace Go.Proofs.Ytgjgmojjeehieaa
open Go.Proofs Go.RowKit

/-- What Pick gives. -/
def pickI (x : Int) (n : Nat) : Nat := if x.tmod n < 0 then (x.tmod n + n).toNat else (x.tmod n).toNat
theorem pick_eq {q n : Nat} {x : Int} (h : (q : Int) = if x.tmod n < 0 then x.tmod n + n else x.tmod n) : q = pickI x n := by
  unfold pickI
  split <;> rename_i h1
  · rw [if_pos h1] at h; omega
  · rw [if_neg h1] at h; omega
theorem D_PickF {G : Nat → Prop} {W w : World} {Rs : List HP} {x : Int} (hx : InR x) {n : Nat} (hn : 1 ≤ n ∧ n ≤ 281474976710656) (hS0 : Sep G W Rs w) : Ret Try.prog 17 [.int .i64 (x), .int .i64 ((n : Nat) : Int)] w (fun r w' => ∃ (q : Nat), r = (.int .i64 ((q : Nat) : Int) : Value) ∧ (q < n) ∧ (q = pickI x n) ∧ Sep G W Rs w') := by
 refine Calls_of_WP (args := [.int .i64 (x), .int .i64 ((n : Nat) : Int)]) Try.func17 rfl rfl ?_
 refine WP_seq ?_
 refine WP_region0 (by kernel_rfl) (fun _ => ?_)
 refine st (ov_assign (v := .int .i64 (0)) rfl ?_)
 refine st_nil ?_
 refine WP_seq ?_
 refine WP_seq ?_
 refine WP_region0 (by kernel_rfl) (fun _ => ?_)
 refine st (ov_move (v := .int .i64 ((n : Nat) : Int)) rfl ?_)
 refine st (ov_lss (k := .i64) (a := ((n : Nat) : Int)) (b := 1) rfl rfl ?_)
 refine st_nil ?_
 cases hc1 : decide (((n : Nat) : Int) < 1)
 ·skip
  have hc1 := of_decide_eq_false hc1
  refine WP_cond_f rfl ?_
  refine WP_skip ?_
  refine WP_seq ?_
  refine WP_region0 (by kernel_rfl) (fun _ => ?_)
  refine st (ov_move (v := .int .i64 (x)) rfl ?_)
  refine st (ov_move (v := .int .i64 ((n : Nat) : Int)) rfl ?_)
  have h03 : (0 : Int) < ((n : Nat) : Int) := by omega
  have hr4 := Int.tmod_lt_of_pos x h03; have hr5 := Int.lt_tmod_of_pos x h03
  obtain ⟨rm2, hr6⟩ : ∃ z, Int.tmod x ((n : Nat) : Int) = z := ⟨_, rfl⟩; rw [hr6] at hr4 hr5
  refine st (ov_rem (r := rm2) rfl rfl h03 hr6 ?_)
  refine st (ov_assign (v := .int .i64 (rm2)) rfl ?_)
  refine st_nil ?_
  refine WP_seq ?_
  refine WP_seq ?_
  refine WP_region0 (by kernel_rfl) (fun _ => ?_)
  refine st (ov_move (v := .int .i64 (rm2)) rfl ?_)
  refine st (ov_lss (k := .i64) (a := rm2) (b := 0) rfl rfl ?_)
  refine st_nil ?_
  cases hc7 : decide (rm2 < 0)
  ·skip
   have hc7 := of_decide_eq_false hc7
   refine WP_cond_f rfl ?_
   refine WP_skip ?_
   refine WP_seq ?_
   refine WP_region0 (by kernel_rfl) (fun _ => ?_)
   refine st (ov_move (v := .int .i64 (rm2)) rfl ?_)
   refine st (ov_assign (v := .int .i64 (rm2)) rfl ?_)
   refine st_nil ?_
   refine WP_ret ?_
   refine fin1 Try.results17 (show _ = (.int .i64 (rm2) : Value) from rfl) ?_
   refine ⟨(rm2).toNat, ?_, ?_, ?_, hS0⟩
   · rw [Int.toNat_of_nonneg (by omega)]
   · omega
   · refine pick_eq ?_
     first | (rw [if_pos (by omega)]; omega) | (rw [if_neg (by omega)]; omega)
  ·skip
   have hc7 := of_decide_eq_true hc7
   refine WP_cond_t rfl ?_
   refine WP_region0 (by kernel_rfl) (fun _ => ?_)
   refine st (ov_move (v := .int .i64 (rm2)) rfl ?_)
   refine st (ov_move (v := .int .i64 ((n : Nat) : Int)) rfl ?_)
   have hr8 : InR (rm2 + ((n : Nat) : Int)) := by omega
   refine st (ov_add (r := rm2 + ((n : Nat) : Int)) (k := .i64) (a := rm2) (b := ((n : Nat) : Int)) rfl rfl (wrap_in hr8) ?_)
   refine st (ov_assign (v := .int .i64 (rm2 + ((n : Nat) : Int))) rfl ?_)
   refine st_nil ?_
   refine WP_seq ?_
   refine WP_region0 (by kernel_rfl) (fun _ => ?_)
   refine st (ov_move (v := .int .i64 (rm2 + ((n : Nat) : Int))) rfl ?_)
   refine st (ov_assign (v := .int .i64 (rm2 + ((n : Nat) : Int))) rfl ?_)
   refine st_nil ?_
   refine WP_ret ?_
   refine fin1 Try.results17 (show _ = (.int .i64 (rm2 + ((n : Nat) : Int)) : Value) from rfl) ?_
   refine ⟨(rm2 + ((n : Nat) : Int)).toNat, ?_, ?_, ?_, hS0⟩
   · rw [Int.toNat_of_nonneg (by omega)]
   · omega
   · refine pick_eq ?_
     first | (rw [if_pos (by omega)]; omega) | (rw [if_neg (by omega)]; omega)
 ·skip
  have hc1 := of_decide_eq_true hc1
  refine WP_cond_t rfl ?_
  refine WP_seq ?_
  refine WP_region0 (by kernel_rfl) (fun _ => ?_)
  refine st (ov_assign (v := .int .i64 (0)) rfl ?_)
  refine st_nil ?_
  refine WP_ret ?_
  refine fin1 Try.results17 (show _ = (.int .i64 (0) : Value) from rfl) ?_
  refine ⟨0, ?_, ?_, ?_, hS0⟩
  · exfalso; omega
  · exfalso; omega
  · exfalso; omega

/-- A part of a set. -/
def Part (n : Nat) (S T : List Ev) : Prop := Good n T ∧ ∀ x ∈ T, x ∈ S
section
variable {n : Nat} {S T : List Ev} {e x : Ev} {i k f len : Nat}
theorem addL_keep (h : x ∈ T) : x ∈ addL n T e := by
  unfold addL
  split
  · exact insE_mem.2 (.inr h)
  · exact h
theorem Part.has (hG : Good n S) (h : Part n S T) (hk : k < S.length) (hK : ∀ x ∈ S.take k, x ∈ T) : S.getD k default ∈ addL n T (S.getD k default) := by
  by_cases hm : S.getD k default ∈ T
  · exact addL_keep hm
  · have h0 : addE n T (S.getD k default) = 0 := by
      refine hG.sub_add h.1 h.2 (getD_mem hk) hm (fun x hx hlt => ?_)
      obtain ⟨j, hj, rfl⟩ := List.getElem_of_mem hx
      rw [← getD_at default hj] at hlt ⊢
      rcases Nat.lt_trichotomy j k with h1 | h1 | h1
      · exact hK _ (take_mem h1 hj)
      · subst h1; rw [cmpE_neg] at hlt; omega
      · exact absurd (hG.at_lt h1 hj) (cmp_asym hlt)
    rw [addL_yes h0]
    exact insE_mem.2 (.inl rfl)
theorem Part.all (hG : Good n S) (h : Part n S T) (hK : ∀ x ∈ S.take k, x ∈ T) (hk : S.length ≤ k) : T = S := by
  rw [List.take_of_length_le hk] at hK
  exact hG.of_mem h.1 (fun x => ⟨h.2 x, hK x⟩)
end
end Go.Proofs.Ytgjgmojjeehieaa
end

section
/- Steps of the proofs of this seat: part R6. -/
set_option linter.unusedSimpArgs false
set_option linter.unusedVariables false
set_option maxRecDepth 8000
set_option maxHeartbeats 4000000
namespace Go.Proofs.Ytgjgmojjeehieaa
open Go.Proofs Go.RowKit

theorem D_AddR {G : Nat → Prop} {W w : World} {Rs : List HP} {b : Nat} {n : Nat} {L : List Ev} {e : Ev} {de0 : Value} (hde0 : RdS W G de0 e.deps) (oe : e.Ok) (hS0 : Sep G W ((SetO b n L) :: Rs) w) (hL : L.length ≤ 1000000) (hlen : ∀ y ∈ L, y.deps.length = n) : Ret Try.prog 21 [.pointer (some ⟨b, 0, none⟩), .agg (e.cells de0).toArray] w (fun r w' => r = (.int .i64 ((addE n L e)) : Value) ∧ Sep G W ((SetO b n (addL n L e)) :: Rs) w') := by
  refine Ret.mono (D_Add hde0 oe hS0 hL hlen) ?_
  rintro r w' ⟨L1, h1, h2, h3⟩
  subst h2
  exact ⟨h1, h3⟩

theorem D_CausalAdds {G : Nat → Prop} {W w : World} {Rs : List HP} {n : Int} (hn : InR n) {vl : Value} {l : List Ev} (hl : RdS W G vl l) {o q : Int} (ho : InR o) (hq : InR q) {key : Int} (hkey : InR key) {most : Int} (hmost : InR most) {vvec : Value} {vec : List Int} (hvec : RdS W G vvec vec) (hS0 : Sep G W Rs w) : Ret Try.prog 9 [.int .i64 (n), vl, .agg #[.int .i64 (o), .int .i64 (q)], .int .i64 (key), .int .i64 (most), vvec] w (fun r w' => r = (.bool true : Value) ∧ Sep G W Rs w') := by
 have hls : l.length * 96 ≤ 140737488355328 := hl.small
 have hvecs : vec.length * 8 ≤ 140737488355328 := hvec.small
 refine Calls_of_WP (args := [.int .i64 (n), vl, .agg #[.int .i64 (o), .int .i64 (q)], .int .i64 (key), .int .i64 (most), vvec]) Try.func9 rfl rfl ?_
 refine WP_seq ?_
 refine WP_region0 (by kernel_rfl) (fun _ => ?_)
 refine st (ov_box (v := .agg #[.int .i64 (o), .int .i64 (q)]) rfl ?_)
 intro w3 b2 hn1
 have hS4 : Sep G W ((Blk b2 #[.int .i64 (o), .int .i64 (q)] 33) :: Rs) w3 := hS0.new hn1
 refine st (ov_assign (v := .bool false) rfl ?_)
 refine st_nil ?_
 refine WP_seq ?_
 refine WP_seq ?_
 refine WP_region (by kernel_rfl) ?_
 refine st (ov_move (v := vl) rfl ?_)
 refine st (ov_call (f := 15) (vals := [vl]) (cap := []) (show _ = (.func (.func 15) #[] #[] : Value) from rfl) rfl Try.call15 (D_long (l := l) (vl := vl) hl hS4) ?_)
 rintro _ w7 ⟨b5, rfl, hb6, hS8⟩
 refine st (ov_move (v := .bool b5) rfl ?_)
 refine stc (V := vvec) rfl rfl (fun hb9 => ?_) ?_
 ·have hl10 := hb9
  exact ov_move (v := vvec) rfl ⟨rfl, rfl⟩
 refine stc (V := .int .i64 ((vec.length : Nat) : Int)) rfl rfl (fun hb11 => ?_) ?_
 ·have hl12 := hb11
  exact ov_len (n := vec.length) Try.underlying34 (show _ = (vvec : Value) from (if_pos hb11)) hvec.sl ⟨rfl, rfl⟩
 refine stc (V := .bool (decide (80 < ((vec.length : Nat) : Int)))) rfl rfl (fun hb13 => ?_) ?_
 ·have hl14 := hb13
  exact ov_gtr (k := .i64) (a := ((vec.length : Nat) : Int)) (b := 80) (show _ = (.int .i64 ((vec.length : Nat) : Int) : Value) from (if_pos hb13)) rfl ⟨rfl, rfl⟩
 refine st (ov_pick_or (b := b5) (b' := decide (80 < ((vec.length : Nat) : Int))) rfl (fun hbp => (show _ = (.bool (decide (80 < ((vec.length : Nat) : Int))) : Value) from (if_pos hbp))) ?_)
 refine st_nil ?_
 cases hc15 : b5 || (decide (80 < ((vec.length : Nat) : Int)))
 ·skip
  have hc15r := hc15
  try simp only [bools] at hc15
  have hf9 : Few l := by have h9 := hc15r; simp only [Bool.or_eq_false_iff] at h9; exact hb6 h9.1
  obtain ⟨hf9, _⟩ := hf9
  refine WP_cond_f rfl ?_
  refine WP_skip ?_
  refine WP_seq ?_
  refine WP_region0 (by kernel_rfl) (fun _ => ?_)
  refine st (ov_move (v := .int .i64 (n)) rfl ?_)
  refine st (ov_call (f := 17) (vals := [.int .i64 (n), .int .i64 (64)]) (cap := []) (show _ = (.func (.func 17) #[] #[] : Value) from rfl) rfl Try.call17 (D_PickF (x := n) (n := 64) hn (by first | omega | (refine ⟨?_, ?_⟩ <;> omega)) hS8) ?_)
  rintro _ w19 ⟨q16, rfl, hq17, hqe18, hS20⟩
  have hr21 : InR ((1 + q16 : Nat) : Int) := by first | omega | (simp only [lens]; omega)
  refine st (ov_add (r := ((1 + q16 : Nat) : Int)) (k := .i64) (a := 1) (b := ((q16 : Nat) : Int)) rfl rfl (by rw [show (1 + ((q16 : Nat) : Int) : Int) = ((1 + q16 : Nat) : Int) by first | omega | (simp only [lens]; omega)]; exact wrap_in hr21) ?_)
  refine st (ov_assign (v := .int .i64 ((1 + q16 : Nat) : Int)) rfl ?_)
  refine st_nil ?_
  refine WP_seq ?_
  refine WP_region0 (by kernel_rfl) (fun _ => ?_)
  refine st (ov_move (v := .int .i64 ((1 + q16 : Nat) : Int)) rfl ?_)
  refine st (ov_call (f := 20) (vals := [.int .i64 ((1 + q16 : Nat) : Int)]) (cap := []) (show _ = (.func (.func 20) #[] #[] : Value) from rfl) rfl Try.call20 (D_NewSet (n := 1 + q16) (by first | omega | (refine ⟨?_, ?_⟩ <;> omega)) hS20) ?_)
  rintro _ w23 ⟨b22, rfl, hS24⟩
  refine st (ov_assign (v := .pointer (some ⟨b22, 0, none⟩)) rfl ?_)
  refine st_nil ?_
  refine WP_seq ?_
  refine WP_region0 (by kernel_rfl) (fun _ => ?_)
  refine st (ov_move (v := .int .i64 ((1 + q16 : Nat) : Int)) rfl ?_)
  refine st (ov_call (f := 34) (vals := [.int .i64 ((1 + q16 : Nat) : Int)]) (cap := []) (show _ = (.func (.func 34) #[] #[] : Value) from rfl) rfl Try.call34 (D_rNew (n := 1 + q16) (by first | omega | (refine ⟨?_, ?_⟩ <;> omega)) hS24) ?_)
  rintro _ w26 ⟨b25, rfl, hS27⟩
  refine st (ov_assign (v := .pointer (some ⟨b25, 0, none⟩)) rfl ?_)
  refine st_nil ?_
  refine WP_seq ?_
  refine WP_seq ?_
  refine WP_region0 (by kernel_rfl) (fun _ => ?_)
  refine st (ov_move (v := .pointer (some ⟨b22, 0, none⟩)) rfl ?_)
  refine st (ov_eqlPtr (b := b22) (o := 0) Try.underlying26 rfl ?_)
  refine st_nil ?_
  refine WP_cond_f rfl ?_
  refine WP_skip ?_
  refine WP_seq ?_
  refine WP_seq ?_
  refine WP_region0 (by kernel_rfl) (fun _ => ?_)
  refine st (ov_assign (v := .int .i64 (0)) rfl ?_)
  refine st_nil ?_
  refine WP_block ?_
  refine WP_loop (fun mq σ wq => ∃ (k : Nat) (ρ : Env), mq = l.length - k ∧ σ = setAll ρ [(0, .int .i64 ((1 + q16 : Nat) : Int)), (1, vl), (3, .int .i64 (key)), (4, .int .i64 (most)), (5, vvec), (8, .pointer (some ⟨b2, 0, none⟩)), (13, .pointer (some ⟨b22, 0, none⟩)), (14, .pointer (some ⟨b25, 0, none⟩)), (15, .int .i64 ((k : Nat) : Int))] ∧ (k ≤ l.length) ∧ Sep G W ((RefS b25 (1 + q16) (laidL (1 + q16) (l.take k))) :: (SetO b22 (1 + q16) (laidL (1 + q16) (l.take k))) :: (Blk b2 #[.int .i64 (o), .int .i64 (q)] 33) :: Rs) wq) ⟨0, _, rfl, setAll_self ⟨rfl, rfl, rfl, rfl, rfl, rfl, rfl, rfl, rfl, trivial⟩, Nat.zero_le _, hS27⟩ ?_
  rintro m29 σ30 w28 ⟨k, ρl1, rfl, rfl, hkk, hS31⟩
  have hlt9 : (laidL (1 + q16) (l.take k)).length ≤ l.length := laid_take
  refine WP_seq ?_
  refine WP_seq ?_
  refine WP_region0 (by kernel_rfl) (fun _ => ?_)
  refine st (ov_move (v := .int .i64 ((k : Nat) : Int)) rfl ?_)
  refine st (ov_move (v := vl) rfl ?_)
  refine st (ov_len (n := l.length) Try.underlying22 rfl hl.sl ?_)
  refine st (ov_lss (k := .i64) (a := ((k : Nat) : Int)) (b := ((l.length : Nat) : Int)) rfl rfl ?_)
  refine st_nil ?_
  cases hc32 : decide (((k : Nat) : Int) < ((l.length : Nat) : Int))
  ·skip
   have hc32r := hc32
   have hc32 := of_decide_eq_false hc32
   refine WP_cond_f rfl ?_
   refine WP_exit ?_
   refine blk_exit ?_
   refine WP_seq ?_
   have hS33 : Sep G W ((SetO b22 (1 + q16) (laidL (1 + q16) (l.take k))) :: (RefS b25 (1 + q16) (laidL (1 + q16) (l.take k))) :: (Blk b2 #[.int .i64 (o), .int .i64 (q)] 33) :: Rs) w28 := hS31.sel 3 [1, 0, 2] (Nat.le_add_left _ _) rfl rfl
   obtain ⟨G34, hA36, hB37, hS38, hk39⟩ := hS33.lend
   obtain ⟨vv40, m41, R42, hb43, hv44, hr45⟩ := SetO.sh hA36
   have hsm46 : (vecE (1 + q16) (laidL (1 + q16) (l.take k))).length * 8 ≤ 140737488355328 := hv44.small
   obtain ⟨G47, hA49, hB50, hS51, hk52⟩ := hS38.lend
   obtain ⟨vl53, hb54, hl55⟩ := RefS.sh hA49
   have hsm56 : (laidL (1 + q16) (l.take k)).length * 96 ≤ 140737488355328 := hl55.small
   refine WP_region (by kernel_rfl) ?_
   refine st (ov_move (v := .pointer (some ⟨b22, 0, none⟩)) rfl ?_)
   refine st (ov_move (v := .pointer (some ⟨b25, 0, none⟩)) rfl ?_)
   refine st (ov_loadk (k := 2) Try.isAgg33 Try.sizeOf33 rfl rfl (CellsAt.all (hS51.blk (i := 0) rfl)) ?_)
   refine st (ov_move (v := .int .i64 (key)) rfl ?_)
   refine st (ov_move (v := .int .i64 (most)) rfl ?_)
   refine st (ov_move (v := vvec) rfl ?_)
   refine st (ov_call (f := 38) (vals := [.pointer (some ⟨b22, 0, none⟩), .pointer (some ⟨b25, 0, none⟩), .agg #[.int .i64 (o), .int .i64 (q)], .int .i64 (key), .int .i64 (most), vvec]) (cap := []) (show _ = (.func (.func 38) #[] #[] : Value) from rfl) rfl Try.call38 (D_same (key := key) (most := most) (vec := vec) (vvec := vvec) (HP.base hA36 hB50) hA49 ho hq hkey hmost (RdS.base (RdS.base hvec hB37) hB50) hS51 (by first | exact laidL_good | exact laidL_good.addL) (by first | omega | (simp only [lens]; omega)) ((by first | exact Nat.le_trans laid_take (by omega) | exact Nat.le_trans laidL_len (by omega) | exact Nat.le_trans addL_len (by omega)))) ?_)
   rintro _ w57 ⟨rfl, hS58⟩
   refine st (ov_move (v := .bool true) rfl ?_)
   refine sty rfl rfl (ov_call (f := 16) (vals := []) (cap := []) (show _ = (.func (.func 16) #[] #[] : Value) from rfl) rfl Try.call16 (D_known9  hS58) ?_)
   rintro _ w59 ⟨rfl, hS60⟩
   refine st (ov_pick_t (v := .bool true) rfl rfl ?_)
   refine st (ov_assign (v := .bool true) rfl ?_)
   refine st_nil ?_
   refine WP_ret ?_
   refine fin1 Try.results9 (show _ = (.bool true : Value) from rfl) ?_
   have hS61 : Sep G34 w28 ((RefS b25 (1 + q16) (laidL (1 + q16) (l.take k))) :: (Blk b2 #[.int .i64 (o), .int .i64 (q)] 33) :: Rs) w59 := hk52 _ _ hS60
   have hS62 : Sep G W ((SetO b22 (1 + q16) (laidL (1 + q16) (l.take k))) :: (RefS b25 (1 + q16) (laidL (1 + q16) (l.take k))) :: (Blk b2 #[.int .i64 (o), .int .i64 (q)] 33) :: Rs) w59 := hk39 _ _ hS61
   have hS63 : Sep G W Rs w59 := hS62.sel 3 [] (Nat.le_add_left _ _) rfl rfl
   refine ⟨rfl, hS63⟩
  ·skip
   have hc32r := hc32
   have hc32 := of_decide_eq_true hc32
   refine WP_cond_t rfl ?_
   refine WP_skip ?_
   refine WP_seq ?_
   refine WP_block ?_
   refine WP_seq ?_
   refine WP_region0 (by kernel_rfl) (fun _ => ?_)
   refine st (ov_move (v := vl) rfl ?_)
   refine st (ov_move (v := .int .i64 ((k : Nat) : Int)) rfl ?_)
   have hi64 : k < l.length := (by first | omega | (simp only [lens]; omega))
   refine st (ov_indexAddrN (k := 10) (i := k) Try.underlying22 Try.sizeOf36 rfl hl.sl rfl hi64 ?_)
   have hi66 : k < l.length := (by first | omega | (simp only [lens]; omega))
   obtain ⟨hce65, hde65_0, hoke65⟩ := hl.ev hi66
   rw [← getD_at default hi66] at hce65 hde65_0 hoke65
   have hsm67 : ((l.getD k default).deps).length * 8 ≤ 140737488355328 := hde65_0.small
   have hcw68 := hS31.cells hce65 (hl.foot (ne_of_lt hi66))
   refine st (ov_loadk (k := 10) Try.isAgg36 Try.sizeOf36 rfl rfl hcw68 ?_)
   refine st (ov_call (f := 35) (vals := [.agg ((l.getD k default).cells (cellV W (sb vl) (so vl + k * 10 + 3))).toArray]) (cap := []) (show _ = (.func (.func 35) #[] #[] : Value) from rfl) rfl Try.call35 (D_copyEvent (e := (l.getD k default)) hde65_0 hoke65 hS31) ?_)
   rintro _ w70 ⟨v69, rfl, hS71⟩
   have hr72 := hS71.row (i := 0) rfl
   have hr72s : ((l.getD k default).deps).length * 8 ≤ 140737488355328 := hr72.2
   refine st (ov_alloc Try.zeroValue36 ?_)
   intro w75 b74 hn73
   have hS76 : Sep G W ((Blk b74 #[.int .i64 (0), .int .i64 (0), .int .i64 (0), (.slice none 0 0), .int .i64 (0), .int .i64 (0), .int .i64 (0), .int .i64 (0), .int .i64 (0), .int .i64 (0)] 36) :: (RowE (α := Int) own 3 v69 ((l.getD k default).deps)) :: (RefS b25 (1 + q16) (laidL (1 + q16) (l.take k))) :: (SetO b22 (1 + q16) (laidL (1 + q16) (l.take k))) :: (Blk b2 #[.int .i64 (o), .int .i64 (q)] 33) :: Rs) w75 := hS71.new hn73
   refine stn (ov_store (v := .agg ((l.getD k default).cells v69).toArray) (c' := ((l.getD k default).cells v69).toArray) Try.sizeOf36 rfl rfl (hS76.blk (i := 0) rfl) (all1 ⟨rfl, rfl, rfl, hr72.1.one, rfl, rfl, rfl, rfl, rfl, rfl, trivial⟩) (Nat.le_of_ble_eq_true rfl) rfl ?_)
   intro w77 hp78
   have hS79 : Sep G W ((Blk b74 ((l.getD k default).cells v69).toArray 36) :: (RowE (α := Int) own 3 v69 ((l.getD k default).deps)) :: (RefS b25 (1 + q16) (laidL (1 + q16) (l.take k))) :: (SetO b22 (1 + q16) (laidL (1 + q16) (l.take k))) :: (Blk b2 #[.int .i64 (o), .int .i64 (q)] 33) :: Rs) w77 := hS76.put (i := 0) rfl hp78
   refine st_nil ?_
   refine WP_seq ?_
   refine WP_seq ?_
   refine WP_draw4 (WF [fun vals wq => Sep G W ((Blk b74 ((l.getD k default).cells v69).toArray 36) :: (RowE (α := Int) own 3 v69 ((l.getD k default).deps)) :: (RefS b25 (1 + q16) (laidL (1 + q16) (l.take k))) :: (SetO b22 (1 + q16) (laidL (1 + q16) (l.take k))) :: (Blk b2 #[.int .i64 (o), .int .i64 (q)] 33) :: Rs) wq, fun vals wq => (vals 2 = (.int .i64 ((addE (1 + q16) (laidL (1 + q16) (l.take k)) (l.getD k default))) : Value)) ∧ Sep G W ((RowE (α := Int) own 3 v69 ((l.getD k default).deps)) :: (SetO b22 (1 + q16) (addL (1 + q16) (laidL (1 + q16) (l.take k)) (l.getD k default))) :: (Blk b74 ((l.getD k default).cells v69).toArray 36) :: (RefS b25 (1 + q16) (laidL (1 + q16) (l.take k))) :: (Blk b2 #[.int .i64 (o), .int .i64 (q)] 33) :: Rs) wq, fun vals wq => (vals 2 = (.int .i64 ((addE (1 + q16) (laidL (1 + q16) (l.take k)) (l.getD k default))) : Value)) ∧ (vals 8 = (.int .i64 ((addE (1 + q16) (laidL (1 + q16) (l.take k)) (l.getD k default))) : Value)) ∧ Sep G W ((RefS b25 (1 + q16) (addL (1 + q16) (laidL (1 + q16) (l.take k)) (l.getD k default))) :: (RowE (α := Int) own 3 v69 ((l.getD k default).deps)) :: (SetO b22 (1 + q16) (addL (1 + q16) (laidL (1 + q16) (l.take k)) (l.getD k default))) :: (Blk b74 ((l.getD k default).cells v69).toArray 36) :: (Blk b2 #[.int .i64 (o), .int .i64 (q)] 33) :: Rs) wq, fun vals wq => (vals 2 = (.int .i64 ((addE (1 + q16) (laidL (1 + q16) (l.take k)) (l.getD k default))) : Value)) ∧ (vals 8 = (.int .i64 ((addE (1 + q16) (laidL (1 + q16) (l.take k)) (l.getD k default))) : Value)) ∧ (vals 16 = (.bool (decide ((l.getD k default) = (l.getD k default))) : Value)) ∧ Sep G W ((RowE (α := Int) own 3 v69 ((l.getD k default).deps)) :: (RefS b25 (1 + q16) (addL (1 + q16) (laidL (1 + q16) (l.take k)) (l.getD k default))) :: (SetO b22 (1 + q16) (addL (1 + q16) (laidL (1 + q16) (l.take k)) (l.getD k default))) :: (Blk b74 ((l.getD k default).cells v69).toArray 36) :: (Blk b2 #[.int .i64 (o), .int .i64 (q)] 33) :: Rs) wq]) (AF [Vl 0 (.pointer (some ⟨b22, 0, none⟩)), Vl 1 (.agg ((l.getD k default).cells v69).toArray), fun _ => True, Vl 3 (.pointer (some ⟨b25, 0, none⟩)), Vl 4 (vl), Vl 5 (.int .i64 ((k : Nat) : Int)), Vl 6 (.pointer (some ⟨sb vl, so vl + k * 10, none⟩)), Vl 7 (.agg ((l.getD k default).cells (cellV W (sb vl) (so vl + k * 10 + 3))).toArray), fun _ => True, Vl 9 (.bool false), Vl 10 (.bool false), Vl 11 (.agg ((l.getD k default).cells v69).toArray), Vl 12 (vl), Vl 13 (.int .i64 ((k : Nat) : Int)), Vl 14 (.pointer (some ⟨sb vl, so vl + k * 10, none⟩)), Vl 15 (.agg ((l.getD k default).cells (cellV W (sb vl) (so vl + k * 10 + 3))).toArray), fun _ => True, Vl 17 (.bool false), Vl 18 (.bool false)]) [[], [], [0, 1], [], [], [], [4, 5], [4, 5, 6], [0, 1, 2, 3, 4, 5, 6, 7], [0, 1, 2, 3, 4, 5, 6, 7, 8], [0, 1, 2, 3, 4, 5, 6, 7, 8, 9], [0, 1, 2, 3, 4, 5, 6, 7, 8, 9, 10], [0, 1, 2, 3, 4, 5, 6, 7, 8, 9, 10], [0, 1, 2, 3, 4, 5, 6, 7, 8, 9, 10], [0, 1, 2, 3, 4, 5, 6, 7, 8, 9, 10, 12, 13], [0, 1, 2, 3, 4, 5, 6, 7, 8, 9, 10, 12, 13, 14], [0, 1, 2, 3, 4, 5, 6, 7, 8, 9, 10, 11, 12, 13, 14, 15], [0, 1, 2, 3, 4, 5, 6, 7, 8, 9, 10, 11, 12, 13, 14, 15, 16], [0, 1, 2, 3, 4, 5, 6, 7, 8, 9, 10, 11, 12, 13, 14, 15, 16, 17]] [2, 8, 16] [(0, 0), (0, 0), (0, 0), (0, 1), (0, 1), (0, 1), (0, 1), (0, 1), (1, 1), (2, 2), (2, 2), (2, 2), (2, 2), (2, 2), (2, 2), (2, 2), (2, 2), (3, 3), (3, 3)] (by kernel_rfl) (by kernel_rfl) (by kernel_rfl) rfl (by kernel_rfl) (by kernel_rfl) (fun _ h1 h2 h3 h4 _ => hS79.same h1 h2 h3 h4) ?_ (AF_loc ⟨dA, dA, dT, dA, dA, dA, dA, dA, dT, dA, dA, dA, dA, dA, dA, dA, dT, dA, dA, trivial⟩) ⟨?_, ?_, ?_, ?_, ?_, ?_, ?_, ?_, ?_, ?_, ?_, ?_, ?_, ?_, ?_, ?_, ?_, ?_, ?_, trivial⟩ ?_
   ·intro k vals vals' w hv h
    have e : ∀ j ∈ ([2, 8, 16] : List Nat), vals' j = vals j := hv
    match k, h with
    | 0, h => exact h
    | 1, h => exact (by simpa only [WF, List.getElem?_cons_zero, List.getElem?_cons_succ, e 2 (by decide)] using h)
    | 2, h => exact (by simpa only [WF, List.getElem?_cons_zero, List.getElem?_cons_succ, e 2 (by decide), e 8 (by decide)] using h)
    | 3, h => exact (by simpa only [WF, List.getElem?_cons_zero, List.getElem?_cons_succ, e 2 (by decide), e 8 (by decide), e 16 (by decide)] using h)
    | _ + 4, _ => trivial
   ·intro k264 vals w265 h268 h269 hW267 hA266
    refine obl rfl ?_
    exact ov_move (v := .pointer (some ⟨b22, 0, none⟩)) rfl (fun vals' hv _ => ⟨rfl, hv⟩)
   ·intro k270 vals w271 h274 h275 hW273 hA272
    obtain rfl : k270 = 0 := Nat.le_antisymm h275 h274
    have hS276 : Sep G W ((Blk b74 ((l.getD k default).cells v69).toArray 36) :: (RowE (α := Int) own 3 v69 ((l.getD k default).deps)) :: (RefS b25 (1 + q16) (laidL (1 + q16) (l.take k))) :: (SetO b22 (1 + q16) (laidL (1 + q16) (l.take k))) :: (Blk b2 #[.int .i64 (o), .int .i64 (q)] 33) :: Rs) w271 := hW273
    refine obl rfl ?_
    exact ov_loadk (k := 10) Try.isAgg36 Try.sizeOf36 rfl rfl (CellsAt.all (hS276.blk (i := 0) rfl)) (fun vals' hv _ => ⟨rfl, hv⟩)
   ·intro k93 vals w94 h97 h98 hW96 hA95
    obtain rfl : k93 = 0 := Nat.le_antisymm h98 h97
    have hS99 : Sep G W ((Blk b74 ((l.getD k default).cells v69).toArray 36) :: (RowE (α := Int) own 3 v69 ((l.getD k default).deps)) :: (RefS b25 (1 + q16) (laidL (1 + q16) (l.take k))) :: (SetO b22 (1 + q16) (laidL (1 + q16) (l.take k))) :: (Blk b2 #[.int .i64 (o), .int .i64 (q)] 33) :: Rs) w94 := hW96
    have e100 := hA95 0 (by decide)
    have e101 := hA95 1 (by decide)
    refine obl rfl ?_
    have hS102 : Sep G W ((RowE (α := Int) own 3 v69 ((l.getD k default).deps)) :: (Blk b74 ((l.getD k default).cells v69).toArray 36) :: (RefS b25 (1 + q16) (laidL (1 + q16) (l.take k))) :: (SetO b22 (1 + q16) (laidL (1 + q16) (l.take k))) :: (Blk b2 #[.int .i64 (o), .int .i64 (q)] 33) :: Rs) w94 := hS99.sel 5 [1, 0, 2, 3, 4] (Nat.le_add_left _ _) rfl rfl
    obtain ⟨G103, hA105, hB106, hS107, hk108⟩ := hS102.lend
    have hrd109 := RowE.rd hA105
    have hrd109s : ((l.getD k default).deps).length * 8 ≤ 140737488355328 := hrd109.small
    have hS110 : Sep G103 w94 ((SetO b22 (1 + q16) (laidL (1 + q16) (l.take k))) :: (Blk b74 ((l.getD k default).cells v69).toArray 36) :: (RefS b25 (1 + q16) (laidL (1 + q16) (l.take k))) :: (Blk b2 #[.int .i64 (o), .int .i64 (q)] 33) :: Rs) w94 := hS107.sel 4 [2, 0, 1, 3] (Nat.le_add_left _ _) rfl rfl
    refine (ov_call (f := 21) (vals := [.pointer (some ⟨b22, 0, none⟩), .agg ((l.getD k default).cells v69).toArray]) (cap := []) (show _ = (.func (.func 21) #[] #[] : Value) from rfl) (mapL ⟨e100, e101, trivial⟩) Try.call21 (D_AddR (e := (l.getD k default)) hrd109 hoke65 hS110 ((by first | exact Nat.le_trans laid_take (by omega) | exact Nat.le_trans laidL_len (by omega) | exact Nat.le_trans addL_len (by omega))) (laidL_good.len)) ?_)
    rintro _ w111 ⟨rfl, hS112⟩
    have hS113 : Sep G W ((RowE (α := Int) own 3 v69 ((l.getD k default).deps)) :: (SetO b22 (1 + q16) (addL (1 + q16) (laidL (1 + q16) (l.take k)) (l.getD k default))) :: (Blk b74 ((l.getD k default).cells v69).toArray 36) :: (RefS b25 (1 + q16) (laidL (1 + q16) (l.take k))) :: (Blk b2 #[.int .i64 (o), .int .i64 (q)] 33) :: Rs) w111 := hk108 _ _ hS112
    intro vals' hv hv'
    refine ⟨?_, trivial⟩
    show (vals' 2 = (.int .i64 ((addE (1 + q16) (laidL (1 + q16) (l.take k)) (l.getD k default))) : Value)) ∧ Sep G W ((RowE (α := Int) own 3 v69 ((l.getD k default).deps)) :: (SetO b22 (1 + q16) (addL (1 + q16) (laidL (1 + q16) (l.take k)) (l.getD k default))) :: (Blk b74 ((l.getD k default).cells v69).toArray 36) :: (RefS b25 (1 + q16) (laidL (1 + q16) (l.take k))) :: (Blk b2 #[.int .i64 (o), .int .i64 (q)] 33) :: Rs) w111
    exact ⟨hv, hS113⟩
   ·intro k277 vals w278 h281 h282 hW280 hA279
    refine obl rfl ?_
    exact ov_move (v := .pointer (some ⟨b25, 0, none⟩)) rfl (fun vals' hv _ => ⟨rfl, hv⟩)
   ·intro k283 vals w284 h287 h288 hW286 hA285
    refine obl rfl ?_
    exact ov_move (v := vl) rfl (fun vals' hv _ => ⟨rfl, hv⟩)
   ·intro k289 vals w290 h293 h294 hW292 hA291
    refine obl rfl ?_
    exact ov_move (v := .int .i64 ((k : Nat) : Int)) rfl (fun vals' hv _ => ⟨rfl, hv⟩)
   ·intro k295 vals w296 h299 h300 hW298 hA297
    have hkk : k295 = 0 ∨ k295 = 1 := by have h1 : 0 ≤ k295 := h299; have h2 : k295 ≤ 1 := h300; omega
    rcases hkk with rfl | rfl
    ·skip
     have hS301 : Sep G W ((Blk b74 ((l.getD k default).cells v69).toArray 36) :: (RowE (α := Int) own 3 v69 ((l.getD k default).deps)) :: (RefS b25 (1 + q16) (laidL (1 + q16) (l.take k))) :: (SetO b22 (1 + q16) (laidL (1 + q16) (l.take k))) :: (Blk b2 #[.int .i64 (o), .int .i64 (q)] 33) :: Rs) w296 := hW298
     have e302 := hA297 4 (by decide)
     have e303 := hA297 5 (by decide)
     refine obl rfl ?_
     have hi304 : k < l.length := (by first | omega | (simp only [lens]; omega))
     exact ov_indexAddrN (k := 10) (i := k) Try.underlying22 Try.sizeOf36 e302 hl.sl e303 hi304 (fun vals' hv _ => ⟨rfl, hv⟩)
    ·skip
     obtain ⟨he114, hS305⟩ := hW298
     have e306 := hA297 4 (by decide)
     have e307 := hA297 5 (by decide)
     refine obl rfl ?_
     have hi308 : k < l.length := (by first | omega | (simp only [lens]; omega))
     exact ov_indexAddrN (k := 10) (i := k) Try.underlying22 Try.sizeOf36 e306 hl.sl e307 hi308 (fun vals' hv _ => ⟨rfl, hv⟩)
   ·intro k309 vals w310 h313 h314 hW312 hA311
    have hkk : k309 = 0 ∨ k309 = 1 := by have h1 : 0 ≤ k309 := h313; have h2 : k309 ≤ 1 := h314; omega
    rcases hkk with rfl | rfl
    ·skip
     have hS315 : Sep G W ((Blk b74 ((l.getD k default).cells v69).toArray 36) :: (RowE (α := Int) own 3 v69 ((l.getD k default).deps)) :: (RefS b25 (1 + q16) (laidL (1 + q16) (l.take k))) :: (SetO b22 (1 + q16) (laidL (1 + q16) (l.take k))) :: (Blk b2 #[.int .i64 (o), .int .i64 (q)] 33) :: Rs) w310 := hW312
     have e316 := hA311 6 (by decide)
     refine obl rfl ?_
     have hcw318 := hS315.cells hce65 (hl.foot (ne_of_lt hi66))
     exact ov_loadk (k := 10) Try.isAgg36 Try.sizeOf36 rfl e316 hcw318 (fun vals' hv _ => ⟨rfl, hv⟩)
    ·skip
     obtain ⟨he114, hS319⟩ := hW312
     have e320 := hA311 6 (by decide)
     refine obl rfl ?_
     have hcw322 := hS319.cells hce65 (hl.foot (ne_of_lt hi66))
     exact ov_loadk (k := 10) Try.isAgg36 Try.sizeOf36 rfl e320 hcw322 (fun vals' hv _ => ⟨rfl, hv⟩)
   ·intro k153 vals w154 h157 h158 hW156 hA155
    obtain rfl : k153 = 1 := Nat.le_antisymm h158 h157
    obtain ⟨he114, hS159⟩ := hW156
    have e160 := hA155 3 (by decide)
    have e161 := hA155 7 (by decide)
    refine obl rfl ?_
    have hS162 : Sep G W ((RefS b25 (1 + q16) (laidL (1 + q16) (l.take k))) :: (RowE (α := Int) own 3 v69 ((l.getD k default).deps)) :: (SetO b22 (1 + q16) (addL (1 + q16) (laidL (1 + q16) (l.take k)) (l.getD k default))) :: (Blk b74 ((l.getD k default).cells v69).toArray 36) :: (Blk b2 #[.int .i64 (o), .int .i64 (q)] 33) :: Rs) w154 := hS159.sel 5 [3, 0, 1, 2, 4] (Nat.le_add_left _ _) rfl rfl
    refine (ov_call (f := 36) (vals := [.pointer (some ⟨b25, 0, none⟩), .agg ((l.getD k default).cells (cellV W (sb vl) (so vl + k * 10 + 3))).toArray]) (cap := []) (show _ = (.func (.func 36) #[] #[] : Value) from rfl) (mapL ⟨e160, e161, trivial⟩) Try.call36 (D_rAddL (e := (l.getD k default)) hde65_0 hoke65 hS162 (laidL_good) (by first | omega | (simp only [lens]; omega)) ((by first | exact Nat.le_trans laid_take (by omega) | exact Nat.le_trans laidL_len (by omega) | exact Nat.le_trans addL_len (by omega)))) ?_)
    rintro _ w163 ⟨rfl, hS164⟩
    intro vals' hv hv'
    refine ⟨?_, trivial⟩
    show (vals' 2 = (.int .i64 ((addE (1 + q16) (laidL (1 + q16) (l.take k)) (l.getD k default))) : Value)) ∧ (vals' 8 = (.int .i64 ((addE (1 + q16) (laidL (1 + q16) (l.take k)) (l.getD k default))) : Value)) ∧ Sep G W ((RefS b25 (1 + q16) (addL (1 + q16) (laidL (1 + q16) (l.take k)) (l.getD k default))) :: (RowE (α := Int) own 3 v69 ((l.getD k default).deps)) :: (SetO b22 (1 + q16) (addL (1 + q16) (laidL (1 + q16) (l.take k)) (l.getD k default))) :: (Blk b74 ((l.getD k default).cells v69).toArray 36) :: (Blk b2 #[.int .i64 (o), .int .i64 (q)] 33) :: Rs) w163
    exact ⟨(by rw [hv' 2 (by decide)]; exact he114), hv, hS164⟩
   ·intro k323 vals w324 h327 h328 hW326 hA325
    obtain rfl : k323 = 2 := Nat.le_antisymm h328 h327
    obtain ⟨he114, he165, hS329⟩ := hW326
    refine obl rfl ?_
    have hl330 : (!decide ((addE (1 + q16) (laidL (1 + q16) (l.take k)) (l.getD k default)) = (addE (1 + q16) (laidL (1 + q16) (l.take k)) (l.getD k default)))) = false := by simp
    exact ov_neq (k := .i64) (a := (addE (1 + q16) (laidL (1 + q16) (l.take k)) (l.getD k default))) (b := (addE (1 + q16) (laidL (1 + q16) (l.take k)) (l.getD k default))) he114 he165 (fun vals' hv _ => ⟨rfl, hv.trans (congrArg Value.bool hl330)⟩)
   ·intro k331 vals w332 h335 h336 hW334 hA333
    have e337 := hA333 9 (by decide)
    refine obl rfl ?_
    exact ov_move (v := .bool false) e337 (fun vals' hv _ => ⟨rfl, hv⟩)
   ·intro k338 vals w339 h342 h343 hW341 hA340
    obtain rfl : k338 = 2 := Nat.le_antisymm h343 h342
    obtain ⟨he114, he165, hS344⟩ := hW341
    have e345 := hA340 10 (by decide)
    refine oblc rfl rfl e345 (fun _ => ?_) (fun hb => absurd rfl hb)
    exact ov_loadk (k := 10) Try.isAgg36 Try.sizeOf36 rfl rfl (CellsAt.all (hS344.blk (i := 3) rfl)) (fun vals' hv _ => ⟨rfl, hv⟩)
   ·intro k346 vals w347 h350 h351 hW349 hA348
    have e352 := hA348 10 (by decide)
    refine oblc rfl rfl e352 (fun _ => ?_) (fun hb => absurd rfl hb)
    exact ov_move (v := vl) rfl (fun vals' hv _ => ⟨rfl, hv⟩)
   ·intro k353 vals w354 h357 h358 hW356 hA355
    have e359 := hA355 10 (by decide)
    refine oblc rfl rfl e359 (fun _ => ?_) (fun hb => absurd rfl hb)
    exact ov_move (v := .int .i64 ((k : Nat) : Int)) rfl (fun vals' hv _ => ⟨rfl, hv⟩)
   ·intro k360 vals w361 h364 h365 hW363 hA362
    obtain rfl : k360 = 2 := Nat.le_antisymm h365 h364
    obtain ⟨he114, he165, hS366⟩ := hW363
    have e367 := hA362 10 (by decide)
    have e368 := hA362 12 (by decide)
    have e369 := hA362 13 (by decide)
    refine oblc rfl rfl e367 (fun _ => ?_) (fun hb => absurd rfl hb)
    have hi370 : k < l.length := (by first | omega | (simp only [lens]; omega))
    exact ov_indexAddrN (k := 10) (i := k) Try.underlying22 Try.sizeOf36 e368 hl.sl e369 hi370 (fun vals' hv _ => ⟨rfl, hv⟩)
   ·intro k371 vals w372 h375 h376 hW374 hA373
    obtain rfl : k371 = 2 := Nat.le_antisymm h376 h375
    obtain ⟨he114, he165, hS377⟩ := hW374
    have e378 := hA373 10 (by decide)
    have e379 := hA373 14 (by decide)
    refine oblc rfl rfl e378 (fun _ => ?_) (fun hb => absurd rfl hb)
    have hcw381 := hS377.cells hce65 (hl.foot (ne_of_lt hi66))
    exact ov_loadk (k := 10) Try.isAgg36 Try.sizeOf36 rfl e379 hcw381 (fun vals' hv _ => ⟨rfl, hv⟩)
   ·intro k225 vals w226 h229 h230 hW228 hA227
    obtain rfl : k225 = 2 := Nat.le_antisymm h230 h229
    obtain ⟨he114, he165, hS231⟩ := hW228
    have e232 := hA227 10 (by decide)
    have e233 := hA227 11 (by decide)
    have e234 := hA227 15 (by decide)
    refine oblc rfl rfl e232 (fun _ => ?_) (fun hb => absurd rfl hb)
    have hS235 : Sep G W ((RowE (α := Int) own 3 v69 ((l.getD k default).deps)) :: (RefS b25 (1 + q16) (addL (1 + q16) (laidL (1 + q16) (l.take k)) (l.getD k default))) :: (SetO b22 (1 + q16) (addL (1 + q16) (laidL (1 + q16) (l.take k)) (l.getD k default))) :: (Blk b74 ((l.getD k default).cells v69).toArray 36) :: (Blk b2 #[.int .i64 (o), .int .i64 (q)] 33) :: Rs) w226 := hS231.sel 5 [1, 0, 2, 3, 4] (Nat.le_add_left _ _) rfl rfl
    obtain ⟨G236, hA238, hB239, hS240, hk241⟩ := hS235.lend
    have hrd242 := RowE.rd hA238
    have hrd242s : ((l.getD k default).deps).length * 8 ≤ 140737488355328 := hrd242.small
    refine (ov_call (f := 30) (vals := [.agg ((l.getD k default).cells v69).toArray, .agg ((l.getD k default).cells (cellV W (sb vl) (so vl + k * 10 + 3))).toArray]) (cap := []) (show _ = (.func (.func 30) #[] #[] : Value) from rfl) (mapL ⟨e233, e234, trivial⟩) Try.call30 (D_sameEvent (a := (l.getD k default)) (b := (l.getD k default)) hrd242 hoke65 (RdS.base hde65_0 hB239) hoke65 hS240) ?_)
    rintro _ w243 ⟨rfl, hS244⟩
    have hS245 : Sep G W ((RowE (α := Int) own 3 v69 ((l.getD k default).deps)) :: (RefS b25 (1 + q16) (addL (1 + q16) (laidL (1 + q16) (l.take k)) (l.getD k default))) :: (SetO b22 (1 + q16) (addL (1 + q16) (laidL (1 + q16) (l.take k)) (l.getD k default))) :: (Blk b74 ((l.getD k default).cells v69).toArray 36) :: (Blk b2 #[.int .i64 (o), .int .i64 (q)] 33) :: Rs) w243 := hk241 _ _ hS244
    intro vals' hv hv'
    refine ⟨?_, trivial⟩
    show (vals' 2 = (.int .i64 ((addE (1 + q16) (laidL (1 + q16) (l.take k)) (l.getD k default))) : Value)) ∧ (vals' 8 = (.int .i64 ((addE (1 + q16) (laidL (1 + q16) (l.take k)) (l.getD k default))) : Value)) ∧ (vals' 16 = (.bool (decide ((l.getD k default) = (l.getD k default))) : Value)) ∧ Sep G W ((RowE (α := Int) own 3 v69 ((l.getD k default).deps)) :: (RefS b25 (1 + q16) (addL (1 + q16) (laidL (1 + q16) (l.take k)) (l.getD k default))) :: (SetO b22 (1 + q16) (addL (1 + q16) (laidL (1 + q16) (l.take k)) (l.getD k default))) :: (Blk b74 ((l.getD k default).cells v69).toArray 36) :: (Blk b2 #[.int .i64 (o), .int .i64 (q)] 33) :: Rs) w243
    exact ⟨(by rw [hv' 2 (by decide)]; exact he114), (by rw [hv' 8 (by decide)]; exact he165), hv, hS245⟩
   ·intro k382 vals w383 h386 h387 hW385 hA384
    obtain rfl : k382 = 3 := Nat.le_antisymm h387 h386
    obtain ⟨he114, he165, he246, hS388⟩ := hW385
    have e389 := hA384 10 (by decide)
    refine oblc rfl rfl e389 (fun _ => ?_) (fun hb => absurd rfl hb)
    have hl390 : (!(decide ((l.getD k default) = (l.getD k default)))) = false := by rw [decide_eq_true rfl]; rfl
    exact ov_not (a := decide ((l.getD k default) = (l.getD k default))) he246 (fun vals' hv _ => ⟨rfl, hv.trans (congrArg Value.bool hl390)⟩)
   ·intro k391 vals w392 h395 h396 hW394 hA393
    have e397 := hA393 10 (by decide)
    have e398 := hA393 17 (by decide)
    refine obl rfl ?_
    exact ov_pick_f (v := .bool false) e397 e398 (fun vals' hv _ => ⟨rfl, hv⟩)
   intro vals w399 hW400 hA401
   obtain ⟨he114, he165, he246, hS402⟩ := hW400
   have e403 := hA401 18 (by decide)
   refine st_env (kv := [(0, .int .i64 ((1 + q16 : Nat) : Int)), (1, vl), (3, .int .i64 (key)), (4, .int .i64 (most)), (5, vvec), (8, .pointer (some ⟨b2, 0, none⟩)), (13, .pointer (some ⟨b22, 0, none⟩)), (14, .pointer (some ⟨b25, 0, none⟩)), (15, .int .i64 ((k : Nat) : Int)), (34, .int .i64 ((k : Nat) : Int)), (35, vl), (36, .int .i64 ((l.length : Nat) : Int)), (37, .bool true), (40, vl), (41, .int .i64 ((k : Nat) : Int)), (42, .pointer (some ⟨sb vl, so vl + k * 10, none⟩)), (43, .agg ((l.getD k default).cells (cellV W (sb vl) (so vl + k * 10 + 3))).toArray), (44, .agg ((l.getD k default).cells v69).toArray), (16, .pointer (some ⟨b74, 0, none⟩)), (63, .bool false)]) ⟨rfl, rfl, rfl, rfl, rfl, rfl, rfl, rfl, rfl, rfl, rfl, rfl, rfl, rfl, rfl, rfl, rfl, rfl, rfl, (by exact e403), trivial⟩ (fun ρw399 => ?_)
   refine st_nil ?_
   refine WP_cond_f rfl ?_
   refine WP_skip ?_
   refine WP_seq ?_
   refine WP_region0 (by kernel_rfl) (fun _ => ?_)
   refine st (fd36_2 rfl ?_)
   refine st (ov_load1 (v := v69) Try.isAgg34 rfl (blk_cellL (hS402.blk (i := 3) rfl) rfl) ?_)
   obtain ⟨f404, hm405, hS406⟩ := hS402.toML
   refine st (ov_call (f := 37) (vals := [v69]) (cap := []) (show _ = (.func (.func 37) #[] #[] : Value) from rfl) rfl Try.call37 (D_SpoilInts  hm405 hS406) ?_)
   rintro _ w407 ⟨rfl, hS408⟩
   refine st_nil ?_
   refine WP_seq ?_
   have hS409 : Sep G W ((SetO b22 (1 + q16) (addL (1 + q16) (laidL (1 + q16) (l.take k)) (l.getD k default))) :: (ML w399 f404 noX) :: (RefS b25 (1 + q16) (addL (1 + q16) (laidL (1 + q16) (l.take k)) (l.getD k default))) :: (Blk b74 ((l.getD k default).cells v69).toArray 36) :: (Blk b2 #[.int .i64 (o), .int .i64 (q)] 33) :: Rs) w407 := hS408.sel 5 [2, 0, 1, 3, 4] (Nat.le_add_left _ _) rfl rfl
   obtain ⟨G410, hA412, hB413, hS414, hk415⟩ := hS409.lend
   obtain ⟨vv416, m417, R418, hb419, hv420, hr421⟩ := SetO.sh hA412
   have hsm422 : (vecE (1 + q16) (addL (1 + q16) (laidL (1 + q16) (l.take k)) (l.getD k default))).length * 8 ≤ 140737488355328 := hv420.small
   have hS423 : Sep G410 w407 ((RefS b25 (1 + q16) (addL (1 + q16) (laidL (1 + q16) (l.take k)) (l.getD k default))) :: (ML w399 f404 noX) :: (Blk b74 ((l.getD k default).cells v69).toArray 36) :: (Blk b2 #[.int .i64 (o), .int .i64 (q)] 33) :: Rs) w407 := hS414.sel 4 [1, 0, 2, 3] (Nat.le_add_left _ _) rfl rfl
   obtain ⟨G424, hA426, hB427, hS428, hk429⟩ := hS423.lend
   obtain ⟨vl430, hb431, hl432⟩ := RefS.sh hA426
   have hsm433 : (addL (1 + q16) (laidL (1 + q16) (l.take k)) (l.getD k default)).length * 96 ≤ 140737488355328 := hl432.small
   refine WP_draw4 (WF [fun vals wq => Sep G424 w407 ((ML w399 f404 noX) :: (Blk b74 ((l.getD k default).cells v69).toArray 36) :: (Blk b2 #[.int .i64 (o), .int .i64 (q)] 33) :: Rs) wq, fun vals wq => (vals 14 = (.bool true : Value)) ∧ Sep G424 w407 ((ML w399 f404 noX) :: (Blk b74 ((l.getD k default).cells v69).toArray 36) :: (Blk b2 #[.int .i64 (o), .int .i64 (q)] 33) :: Rs) wq]) (AF [Vl 0 (.pointer (some ⟨b22, 0, none⟩)), Vl 1 (.pointer (some ⟨b25, 0, none⟩)), Vl 2 (vl), Vl 3 (.int .i64 ((k : Nat) : Int)), Vl 4 (.pointer (some ⟨sb vl, so vl + k * 10, none⟩)), Vl 5 (.pointer (some ⟨sb vl, so vl + k * 10, none⟩)), Vl 6 (.agg #[.int .i64 ((l.getD k default).origin), .int .i64 ((l.getD k default).seq)]), Vl 7 (vl), Vl 8 (.int .i64 ((k : Nat) : Int)), Vl 9 (.pointer (some ⟨sb vl, so vl + k * 10, none⟩)), Vl 10 (.pointer (some ⟨sb vl, so vl + k * 10 + 9, none⟩)), Vl 11 (.int .i64 ((l.getD k default).key)), Vl 12 (.int .i64 (most)), Vl 13 (vvec), fun _ => True, Vl 15 (.bool false)]) [[], [], [], [], [2, 3], [2, 3, 4], [2, 3, 4, 5], [], [], [7, 8], [7, 8, 9], [7, 8, 9, 10], [], [], [0, 1, 2, 3, 4, 5, 6, 7, 8, 9, 10, 11, 12, 13], [0, 1, 2, 3, 4, 5, 6, 7, 8, 9, 10, 11, 12, 13, 14]] [14] [(0, 0), (0, 0), (0, 0), (0, 0), (0, 0), (0, 0), (0, 0), (0, 0), (0, 0), (0, 0), (0, 0), (0, 0), (0, 0), (0, 0), (0, 0), (1, 1)] (by kernel_rfl) (by kernel_rfl) (by kernel_rfl) rfl (by kernel_rfl) (by kernel_rfl) (fun _ h1 h2 h3 h4 _ => hS428.same h1 h2 h3 h4) ?_ (AF_loc ⟨dA, dA, dA, dA, dA, dA, dA, dA, dA, dA, dA, dA, dA, dA, dT, dA, trivial⟩) ⟨?_, ?_, ?_, ?_, ?_, ?_, ?_, ?_, ?_, ?_, ?_, ?_, ?_, ?_, ?_, ?_, trivial⟩ ?_
   ·intro k vals vals' w hv h
    have e : ∀ j ∈ ([14] : List Nat), vals' j = vals j := hv
    match k, h with
    | 0, h => exact h
    | 1, h => exact (by simpa only [WF, List.getElem?_cons_zero, List.getElem?_cons_succ, e 14 (by decide)] using h)
    | _ + 2, _ => trivial
   ·intro k563 vals w564 h567 h568 hW566 hA565
    refine obl rfl ?_
    exact ov_move (v := .pointer (some ⟨b22, 0, none⟩)) rfl (fun vals' hv _ => ⟨rfl, hv⟩)
   ·intro k569 vals w570 h573 h574 hW572 hA571
    refine obl rfl ?_
    exact ov_move (v := .pointer (some ⟨b25, 0, none⟩)) rfl (fun vals' hv _ => ⟨rfl, hv⟩)
   ·intro k575 vals w576 h579 h580 hW578 hA577
    refine obl rfl ?_
    exact ov_move (v := vl) rfl (fun vals' hv _ => ⟨rfl, hv⟩)
   ·intro k581 vals w582 h585 h586 hW584 hA583
    refine obl rfl ?_
    exact ov_move (v := .int .i64 ((k : Nat) : Int)) rfl (fun vals' hv _ => ⟨rfl, hv⟩)
   ·intro k587 vals w588 h591 h592 hW590 hA589
    obtain rfl : k587 = 0 := Nat.le_antisymm h592 h591
    have hS593 : Sep G424 w407 ((ML w399 f404 noX) :: (Blk b74 ((l.getD k default).cells v69).toArray 36) :: (Blk b2 #[.int .i64 (o), .int .i64 (q)] 33) :: Rs) w588 := hW590
    have e594 := hA589 2 (by decide)
    have e595 := hA589 3 (by decide)
    refine obl rfl ?_
    have hi596 : k < l.length := (by first | omega | (simp only [lens]; omega))
    exact ov_indexAddrN (k := 10) (i := k) Try.underlying22 Try.sizeOf36 e594 (RdS.base (RdS.base hl hB413) hB427).sl e595 hi596 (fun vals' hv _ => ⟨rfl, hv⟩)
   ·intro k597 vals w598 h601 h602 hW600 hA599
    have e603 := hA599 4 (by decide)
    refine obl rfl ?_
    exact fd36_0 e603 (fun vals' hv _ => ⟨rfl, hv⟩)
   ·intro k604 vals w605 h608 h609 hW607 hA606
    obtain rfl : k604 = 0 := Nat.le_antisymm h609 h608
    have hS610 : Sep G424 w407 ((ML w399 f404 noX) :: (Blk b74 ((l.getD k default).cells v69).toArray 36) :: (Blk b2 #[.int .i64 (o), .int .i64 (q)] 33) :: Rs) w605 := hW607
    have e611 := hA606 5 (by decide)
    refine obl rfl ?_
    have hi613 : k < l.length := (by first | omega | (simp only [lens]; omega))
    obtain ⟨hce612, hde612_0, hoke612⟩ := (RdS.base (RdS.base hl hB413) hB427).ev hi613
    rw [← getD_at default hi613] at hce612 hde612_0 hoke612
    have hsm614 : ((l.getD k default).deps).length * 8 ≤ 140737488355328 := hde612_0.small
    have hcw615 := hS610.cells hce612 ((RdS.base (RdS.base hl hB413) hB427).foot (ne_of_lt hi613))
    exact ov_loadk (k := 2) (cs := [.int .i64 ((l.getD k default).origin), .int .i64 ((l.getD k default).seq)]) Try.isAgg33 Try.sizeOf33 rfl e611 (CellsAt.sub hcw615 0 (cs2 := [.int .i64 ((l.getD k default).origin), .int .i64 ((l.getD k default).seq)]) rfl) (fun vals' hv _ => ⟨rfl, hv⟩)
   ·intro k616 vals w617 h620 h621 hW619 hA618
    refine obl rfl ?_
    exact ov_move (v := vl) rfl (fun vals' hv _ => ⟨rfl, hv⟩)
   ·intro k622 vals w623 h626 h627 hW625 hA624
    refine obl rfl ?_
    exact ov_move (v := .int .i64 ((k : Nat) : Int)) rfl (fun vals' hv _ => ⟨rfl, hv⟩)
   ·intro k628 vals w629 h632 h633 hW631 hA630
    obtain rfl : k628 = 0 := Nat.le_antisymm h633 h632
    have hS634 : Sep G424 w407 ((ML w399 f404 noX) :: (Blk b74 ((l.getD k default).cells v69).toArray 36) :: (Blk b2 #[.int .i64 (o), .int .i64 (q)] 33) :: Rs) w629 := hW631
    have e635 := hA630 7 (by decide)
    have e636 := hA630 8 (by decide)
    refine obl rfl ?_
    have hi637 : k < l.length := (by first | omega | (simp only [lens]; omega))
    exact ov_indexAddrN (k := 10) (i := k) Try.underlying22 Try.sizeOf36 e635 (RdS.base (RdS.base hl hB413) hB427).sl e636 hi637 (fun vals' hv _ => ⟨rfl, hv⟩)
   ·intro k638 vals w639 h642 h643 hW641 hA640
    have e644 := hA640 9 (by decide)
    refine obl rfl ?_
    exact fd36_8 e644 (fun vals' hv _ => ⟨rfl, hv⟩)
   ·intro k645 vals w646 h649 h650 hW648 hA647
    obtain rfl : k645 = 0 := Nat.le_antisymm h650 h649
    have hS651 : Sep G424 w407 ((ML w399 f404 noX) :: (Blk b74 ((l.getD k default).cells v69).toArray 36) :: (Blk b2 #[.int .i64 (o), .int .i64 (q)] 33) :: Rs) w646 := hW648
    have e652 := hA647 10 (by decide)
    refine obl rfl ?_
    have hi654 : k < l.length := (by first | omega | (simp only [lens]; omega))
    obtain ⟨hce653, hde653_0, hoke653⟩ := (RdS.base (RdS.base hl hB413) hB427).ev hi654
    rw [← getD_at default hi654] at hce653 hde653_0 hoke653
    have hsm655 : ((l.getD k default).deps).length * 8 ≤ 140737488355328 := hde653_0.small
    have hcw656 := hS651.cells hce653 ((RdS.base (RdS.base hl hB413) hB427).foot (ne_of_lt hi654))
    exact ov_load1 (v := .int .i64 ((l.getD k default).key)) Try.isAgg3 e652 (hcw656.get (j := 9) rfl) (fun vals' hv _ => ⟨rfl, hv⟩)
   ·intro k657 vals w658 h661 h662 hW660 hA659
    refine obl rfl ?_
    exact ov_move (v := .int .i64 (most)) rfl (fun vals' hv _ => ⟨rfl, hv⟩)
   ·intro k663 vals w664 h667 h668 hW666 hA665
    refine obl rfl ?_
    exact ov_move (v := vvec) rfl (fun vals' hv _ => ⟨rfl, hv⟩)
   ·intro k540 vals w541 h544 h545 hW543 hA542
    obtain rfl : k540 = 0 := Nat.le_antisymm h545 h544
    have hS546 : Sep G424 w407 ((ML w399 f404 noX) :: (Blk b74 ((l.getD k default).cells v69).toArray 36) :: (Blk b2 #[.int .i64 (o), .int .i64 (q)] 33) :: Rs) w541 := hW543
    have e547 := hA542 0 (by decide)
    have e548 := hA542 1 (by decide)
    have e549 := hA542 6 (by decide)
    have e550 := hA542 11 (by decide)
    have e551 := hA542 12 (by decide)
    have e552 := hA542 13 (by decide)
    refine obl rfl ?_
    refine (ov_call (f := 38) (vals := [.pointer (some ⟨b22, 0, none⟩), .pointer (some ⟨b25, 0, none⟩), .agg #[.int .i64 ((l.getD k default).origin), .int .i64 ((l.getD k default).seq)], .int .i64 ((l.getD k default).key), .int .i64 (most), vvec]) (cap := []) (show _ = (.func (.func 38) #[] #[] : Value) from rfl) (mapL ⟨e547, e548, e549, e550, e551, e552, trivial⟩) Try.call38 (D_same (key := (l.getD k default).key) (most := most) (vec := vec) (vvec := vvec) (HP.base hA412 hB427) hA426 hoke65.origin hoke65.seq hoke65.key (by omega) (RdS.base (RdS.base hvec hB413) hB427) hS546 (by first | exact laidL_good | exact laidL_good.addL) (by first | omega | (simp only [lens]; omega)) ((by first | exact Nat.le_trans laid_take (by omega) | exact Nat.le_trans laidL_len (by omega) | exact Nat.le_trans addL_len (by omega)))) ?_)
    rintro _ w553 ⟨rfl, hS554⟩
    intro vals' hv hv'
    refine ⟨?_, trivial⟩
    show (vals' 14 = (.bool true : Value)) ∧ Sep G424 w407 ((ML w399 f404 noX) :: (Blk b74 ((l.getD k default).cells v69).toArray 36) :: (Blk b2 #[.int .i64 (o), .int .i64 (q)] 33) :: Rs) w553
    exact ⟨hv, hS554⟩
   ·intro k669 vals w670 h673 h674 hW672 hA671
    obtain rfl : k669 = 1 := Nat.le_antisymm h674 h673
    obtain ⟨he555, hS675⟩ := hW672
    refine obl rfl ?_
    exact ov_not (a := true) he555 (fun vals' hv _ => ⟨rfl, hv⟩)
   intro vals w676 hW677 hA678
   obtain ⟨he555, hS679⟩ := hW677
   have e680 := hA678 15 (by decide)
   refine st_env (kv := [(0, .int .i64 ((1 + q16 : Nat) : Int)), (1, vl), (3, .int .i64 (key)), (4, .int .i64 (most)), (5, vvec), (8, .pointer (some ⟨b2, 0, none⟩)), (13, .pointer (some ⟨b22, 0, none⟩)), (14, .pointer (some ⟨b25, 0, none⟩)), (15, .int .i64 ((k : Nat) : Int)), (34, .int .i64 ((k : Nat) : Int)), (35, vl), (36, .int .i64 ((l.length : Nat) : Int)), (37, .bool true), (40, vl), (41, .int .i64 ((k : Nat) : Int)), (42, .pointer (some ⟨sb vl, so vl + k * 10, none⟩)), (43, .agg ((l.getD k default).cells (cellV W (sb vl) (so vl + k * 10 + 3))).toArray), (44, .agg ((l.getD k default).cells v69).toArray), (16, .pointer (some ⟨b74, 0, none⟩)), (63, .bool false), (64, .pointer (some ⟨b74, 3, none⟩)), (65, v69), (66, .tuple #[]), (82, .bool false)]) ⟨rfl, rfl, rfl, rfl, rfl, rfl, rfl, rfl, rfl, rfl, rfl, rfl, rfl, rfl, rfl, rfl, rfl, rfl, rfl, rfl, rfl, rfl, rfl, (by exact e680), trivial⟩ (fun ρw676 => ?_)
   refine st_nil ?_
   refine WP_cond_f rfl ?_
   refine WP_skip ?_
   refine WP_region0 (by kernel_rfl) (fun _ => ?_)
   refine st (ov_move (v := .int .i64 ((k : Nat) : Int)) rfl ?_)
   have hr681 : InR ((k + 1 : Nat) : Int) := by first | omega | (simp only [lens]; omega)
   refine st (ov_add (r := ((k + 1 : Nat) : Int)) (k := .i64) (a := ((k : Nat) : Int)) (b := 1) rfl rfl (by rw [show (((k : Nat) : Int) + 1 : Int) = ((k + 1 : Nat) : Int) by first | omega | (simp only [lens]; omega)]; exact wrap_in hr681) ?_)
   refine st (ov_assign (v := .int .i64 ((k + 1 : Nat) : Int)) rfl ?_)
   refine st_nil ?_
   have hS682 : Sep G410 w407 ((RefS b25 (1 + q16) (addL (1 + q16) (laidL (1 + q16) (l.take k)) (l.getD k default))) :: (ML w399 f404 noX) :: (Blk b74 ((l.getD k default).cells v69).toArray 36) :: (Blk b2 #[.int .i64 (o), .int .i64 (q)] 33) :: Rs) w676 := hk429 _ _ hS679
   have hS683 : Sep G W ((SetO b22 (1 + q16) (addL (1 + q16) (laidL (1 + q16) (l.take k)) (l.getD k default))) :: (RefS b25 (1 + q16) (addL (1 + q16) (laidL (1 + q16) (l.take k)) (l.getD k default))) :: (ML w399 f404 noX) :: (Blk b74 ((l.getD k default).cells v69).toArray 36) :: (Blk b2 #[.int .i64 (o), .int .i64 (q)] 33) :: Rs) w676 := hk415 _ _ hS682
   have hS684 : Sep G W ((RefS b25 (1 + q16) (addL (1 + q16) (laidL (1 + q16) (l.take k)) (l.getD k default))) :: (SetO b22 (1 + q16) (addL (1 + q16) (laidL (1 + q16) (l.take k)) (l.getD k default))) :: (Blk b2 #[.int .i64 (o), .int .i64 (q)] 33) :: Rs) w676 := hS683.sel 5 [1, 0, 4] (Nat.le_add_left _ _) rfl rfl
   have hL685 : (laidL (1 + q16) (l.take (k + 1))) = (addL (1 + q16) (laidL (1 + q16) (l.take k)) (l.getD k default)) := (laid_step (by omega)).symm
   rw [← hL685] at hS684
   exact ⟨_, by omega, k + 1, _, rfl, setAll_self ⟨rfl, rfl, rfl, rfl, rfl, rfl, rfl, rfl, rfl, trivial⟩, by omega, hS684⟩
 ·skip
  have hc15r := hc15
  try simp only [bools] at hc15
  refine WP_cond_t rfl ?_
  refine WP_seq ?_
  refine WP_region0 (by kernel_rfl) (fun _ => ?_)
  refine st (ov_call (f := 16) (vals := []) (cap := []) (show _ = (.func (.func 16) #[] #[] : Value) from rfl) rfl Try.call16 (D_known9  hS8) ?_)
  rintro _ w687 ⟨rfl, hS688⟩
  refine st (ov_assign (v := .bool true) rfl ?_)
  refine st_nil ?_
  refine WP_ret ?_
  refine fin1 Try.results9 (show _ = (.bool true : Value) from rfl) ?_
  have hS689 : Sep G W Rs w687 := hS688.sel 1 [] (Nat.le_add_left _ _) rfl rfl
  refine ⟨rfl, hS689⟩

end Go.Proofs.Ytgjgmojjeehieaa
end

section
/- Steps of the proofs of this seat: part E10. -/
set_option linter.unusedSimpArgs false
set_option linter.unusedVariables false
set_option maxRecDepth 8000
set_option maxHeartbeats 4000000
namespace Go.Proofs.Ytgjgmojjeehieaa
open Go.Proofs Go.RowKit

theorem C_CausalAdds {W : World} {z0 : Int} (hz0 : InR z0) {vz1 : Value} {z1 : List Ev} (hz1 : RdS W (inHeap W) vz1 z1) {z2 : Idr} (hz2 : z2.Ok) {z3 : Int} (hz3 : InR z3) {z4 : Int} (hz4 : InR z4) {vz5 : Value} {z5 : List Int} (hz5 : RdS W (inHeap W) vz5 z5) : Ret Try.prog 9 [.int .i64 z0, vz1, .agg (z2.cells).toArray, .int .i64 z3, .int .i64 z4, vz5] W (fun r w' => r = .bool true ∧ Ext W w') :=
  Ret.mono (D_CausalAdds hz0 hz1 hz2.io hz2.iq hz3 hz4 hz5 (Sep.start W)) (fun v w' ⟨h1, h2⟩ => ⟨h1, h2.fin⟩)
end Go.Proofs.Ytgjgmojjeehieaa
end
