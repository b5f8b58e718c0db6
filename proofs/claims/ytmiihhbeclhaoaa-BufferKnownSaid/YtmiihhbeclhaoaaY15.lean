/- Texts of this claim, part 15. -/
import Derived.Test.YtmiihhbeclhaoaaY14
set_option linter.unusedSimpArgs false
set_option linter.unusedVariables false
set_option linter.unusedSectionVars false
section
/- Steps of the proofs of this seat: part D14. -/
set_option maxRecDepth 8000
set_option maxHeartbeats 4000000
namespace Go.Proofs.Ytmiihhbeclhaoaa
open Go.Proofs Go.RowKit

theorem WA {G : Nat → Prop} {W w : World} {Rs : List HP} {b : Nat} {most : Int} {B : List Ev} {s : Nat} {n : Nat} {L : List Ev} (hs : (RefS s n L).p W G) (hS0 : Sep G W ((RBufO b most B) :: Rs) w) (hmost : InR most) (hG : Good n L) (hn9 : n ≤ 1000) (hids : (B.map idE).Nodup) (hLB : L.length + B.length ≤ 1000000) : Ret Try.prog 28 [.pointer (some ⟨b, 0, none⟩), .pointer (some ⟨s, 0, none⟩)] w (fun r w' => ∃ (v : Value) (B2 : List Ev), r = (v : Value) ∧ ((B2.map idE).Nodup) ∧ (zu B2 = yy n L ((zu B).filter (fun x => !zA L x))) ∧ Sep G W ((RowE (α := Ev) own 36 v (yn n L ((zu B).filter (fun x => !zA L x)))) :: (RBufO b most B2) :: Rs) w') := by
 refine zp (args := [.pointer (some ⟨b, 0, none⟩), .pointer (some ⟨s, 0, none⟩)]) Try.func28 rfl rfl ?_
 obtain ⟨vl1, hb2, hl3⟩ := RefS.sh hs
 have hsm4 : L.length * 96 ≤ 140737488355328 := hl3.small
 refine zc ?_
 refine za (by kernel_rfl) (fun _ => ?_)
 refine st (zd (v := (.slice none 0 0)) rfl ?_)
 refine ze ?_
 refine zc ?_
 refine zc ?_
 obtain ⟨vl5, hS6⟩ := RBufO.open hS0
 have hS6t : Sep G W ((Blk b #[.int .i64 (most), vl5] 76) :: (EvW vl5 36 3 B) :: Rs) w := hS6
 have hes7 : B.length * 96 ≤ 140737488355328 := (hS6t.evwSl (i := 1) rfl).2
 refine za (by kernel_rfl) (fun _ => ?_)
 refine st (zb (v := .pointer (some ⟨b, 0, none⟩)) rfl ?_)
 refine st (zn (b := b) (o := 0) rfl ?_)
 refine st (yS rfl ?_)
 refine st (zg (v := vl5) Try.isAgg22 rfl (zf (hS6t.blk (i := 0) rfl) rfl) ?_)
 refine st (zJ (n := B.length) Try.underlying22 rfl (hS6t.evwSl (i := 1) rfl).1 ?_)
 have hr8 : InR (((B.length : Nat) : Int) - 1) := by omega
 refine st (Za (r := ((B.length : Nat) : Int) - 1) (k := .i64) (a := ((B.length : Nat) : Int)) (b := 1) rfl rfl (zy hr8) ?_)
 refine st (zd (v := .int .i64 (((B.length : Nat) : Int) - 1)) rfl ?_)
 refine ze ?_
 refine zt ?_
 have hS9 : Sep G W ((RBufO b most B) :: Rs) w := RBufO.close (most := most) (B := B) hS6t
 refine zP (fun mq σ wq => ∃ (k : Nat) (ρ : Env), mq = k + 1 ∧ σ = zQ ρ [(0, .pointer (some ⟨b, 0, none⟩)), (1, .pointer (some ⟨s, 0, none⟩)), (5, .int .i64 (((k : Nat) : Int) - 1))] ∧ (k ≤ B.length) ∧ Sep G W ((RBufO b most (yi (zA L) B k)) :: Rs) wq) ⟨B.length, _, rfl, zh ⟨rfl, rfl, rfl, trivial⟩, (Nat.le_refl _), (by rw [KB]; exact hS9)⟩ ?_
 rintro m11 σ12 w10 ⟨k, ρl1, rfl, rfl, hkk, hS13⟩
 refine zc ?_
 refine zc ?_
 refine za (by kernel_rfl) (fun _ => ?_)
 refine st (zb (v := .int .i64 (((k : Nat) : Int) - 1)) rfl ?_)
 refine st (xv (k := .i64) (a := ((k : Nat) : Int) - 1) (b := 0) rfl rfl ?_)
 refine ze ?_
 cases hc14 : decide (0 ≤ (((k : Nat) : Int) - 1))
 ·skip
  have hc14r := hc14
  have hc14 := of_decide_eq_false hc14
  refine zi rfl ?_
  refine zO ?_
  refine zF ?_
  refine zc ?_
  obtain rfl : k = 0 := by omega
  rw [Ke] at hS13
  have hS15 : Sep G W ((RBufO b most (B.filter (fun x => !zA L x))) :: Rs) w10 := hS13
  refine za (by kernel_rfl) (fun _ => ?_)
  refine st (zb (v := .pointer (some ⟨s, 0, none⟩)) rfl ?_)
  refine st (zn (b := s) (o := 0) rfl ?_)
  refine st (Zc rfl ?_)
  refine st (zg (v := .int .i64 ((n : Nat) : Int)) Try.isAgg3 rfl (zf (hS15.gblk hb2) rfl) ?_)
  refine st (zj (f := 21) (vals := [.int .i64 ((n : Nat) : Int)]) (cap := []) rfl rfl Try.call21 (QH (n := n) (by first | omega | (refine ⟨?_, ?_⟩ <;> omega)) hS15) ?_)
  rintro _ w17 ⟨b16, rfl, hS18⟩
  refine st (zd (v := .pointer (some ⟨b16, 0, none⟩)) rfl ?_)
  refine ze ?_
  refine zc ?_
  refine zc ?_
  refine za (by kernel_rfl) (fun _ => ?_)
  refine st (zd (v := .int .i64 (0)) rfl ?_)
  refine ze ?_
  refine zt ?_
  refine zP (fun mq σ wq => ∃ (k : Nat) (ρ : Env), mq = L.length - k ∧ σ = zQ ρ [(0, .pointer (some ⟨b, 0, none⟩)), (1, .pointer (some ⟨s, 0, none⟩)), (8, .pointer (some ⟨b16, 0, none⟩)), (9, .int .i64 ((k : Nat) : Int))] ∧ (k ≤ L.length) ∧ Sep G W ((RefS b16 n (yX n (L.take k))) :: (RBufO b most (B.filter (fun x => !zA L x))) :: Rs) wq) ⟨0, _, rfl, zh ⟨rfl, rfl, rfl, rfl, trivial⟩, Nat.zero_le _, hS18⟩ ?_
  rintro m20 σ21 w19 ⟨k, ρl2, rfl, rfl, hkk, hS22⟩
  refine zc ?_
  refine zc ?_
  refine za (by kernel_rfl) (fun _ => ?_)
  refine st (zb (v := .int .i64 ((k : Nat) : Int)) rfl ?_)
  refine st (zb (v := .pointer (some ⟨s, 0, none⟩)) rfl ?_)
  refine st (zn (b := s) (o := 0) rfl ?_)
  refine st (yI rfl ?_)
  refine st (zg (v := vl1) Try.isAgg22 rfl (zf (hS22.gblk hb2) rfl) ?_)
  refine st (zJ (n := L.length) Try.underlying22 rfl hl3.sl ?_)
  refine st (zH (k := .i64) (a := ((k : Nat) : Int)) (b := ((L.length : Nat) : Int)) rfl rfl ?_)
  refine ze ?_
  cases hc23 : decide (((k : Nat) : Int) < ((L.length : Nat) : Int))
  ·skip
   have hc23r := hc23
   have hc23 := of_decide_eq_false hc23
   refine zi rfl ?_
   refine zO ?_
   refine zF ?_
   refine zc ?_
   have hlk9 : yX n (L.take k) = L := by rw [Zb hG k (by omega), show k = L.length by omega, List.take_length]
   rw [hlk9] at hS22
   have hS24 : Sep G W ((RefS b16 n L) :: (RBufO b most (B.filter (fun x => !zA L x))) :: Rs) w19 := hS22
   refine za (by kernel_rfl) (fun _ => ?_)
   refine st (zd (v := (.slice none 0 0)) rfl ?_)
   refine ze ?_
   refine zc ?_
   refine zc ?_
   refine za (by kernel_rfl) (fun _ => ?_)
   refine st (zb (v := .pointer (some ⟨b, 0, none⟩)) rfl ?_)
   refine st (zb (v := .pointer (some ⟨b16, 0, none⟩)) rfl ?_)
   have hS25 := hS24.mv1
   obtain ⟨G26, hA28, hB29, hS30, hk31⟩ := hS25.lend
   obtain ⟨vl32, hb33, hl34⟩ := RBufO.sh hA28
   have hsm35 : (B.filter (fun x => !zA L x)).length * 96 ≤ 140737488355328 := hl34.small
   refine st (zj (f := 60) (vals := [.pointer (some ⟨b, 0, none⟩), .pointer (some ⟨b16, 0, none⟩)]) (cap := []) rfl rfl Try.call60 (VT  hA28 hS30 (by first | omega | (simp only [lens]; omega)) (by first | exact hG | exact hI9.r.good.addL) (hn9) (by omega)) ?_)
   rintro _ w39 ⟨c36, rfl, hcI37, hcF38, hS40⟩
   have hS41 := hk31 _ _ hS40
   refine st (zd (v := .int .i64 (c36)) rfl ?_)
   refine ze ?_
   refine zt ?_
   have hS42 : Sep G W ((RowE (α := Ev) own 36 (.slice none 0 0) ([] : List Ev)) :: (RBufO b most (B.filter (fun x => !zA L x))) :: (RefS b16 n L) :: Rs) w39 := hS41.rowNil own 36
   have hsl9 : ((zu B).filter (fun x => !zA L x)).length ≤ B.length := by have h8 := List.length_filter_le (fun x => !zA L x) (zu B); have h9 := (sortE_perm (l := B)).length_eq; omega
   have hS43 : Sep G W ((RBufO b most (B.filter (fun x => !zA L x))) :: (RefS b16 n L) :: (RowE (α := Ev) own 36 (.slice none 0 0) ([] : List Ev)) :: Rs) w39 := hS42.sel 3 [1, 2, 0] (Nat.le_add_left _ _) rfl rfl
   refine zP (fun mq σ wq => ∃ (O9 : List Ev) (T9 : List Ev) (B9 : List Ev) (c9 : Int) (vo : Value) (ρ : Env), mq = B9.length ∧ σ = zQ ρ [(0, .pointer (some ⟨b, 0, none⟩)), (8, .pointer (some ⟨b16, 0, none⟩)), (10, vo), (11, .int .i64 (c9))] ∧ (InR c9) ∧ (FirstL n T9 B9 B9.length c9) ∧ (RrI n L ((zu B).filter (fun x => !zA L x)) O9 T9 B9) ∧ Sep G W ((RBufO b most B9) :: (RefS b16 n T9) :: (RowE (α := Ev) own 36 vo O9) :: Rs) wq) ⟨[], L, (B.filter (fun x => !zA L x)), c36, (.slice none 0 0), _, rfl, zh ⟨rfl, rfl, rfl, rfl, trivial⟩, hcI37, hcF38, (RrI.start hG hids hLB), hS43⟩ ?_
   rintro m45 σ46 w44 ⟨O9, T9, B9, c9, vo, ρl3, rfl, rfl, hc99, hF9, hI9, hS47⟩
   have hr48 := hS47.row (i := 2) rfl
   have hr48s : _ * 96 ≤ _ := hr48.2
   have hbd9 := hI9.bd
   refine zc ?_
   refine zc ?_
   refine za (by kernel_rfl) (fun _ => ?_)
   refine st (zb (v := .int .i64 (c9)) rfl ?_)
   refine st (xv (k := .i64) (a := c9) (b := 0) rfl rfl ?_)
   refine ze ?_
   cases hc49 : decide (0 ≤ c9)
   ·skip
    have hc49r := hc49
    have hc49 := of_decide_eq_false hc49
    obtain ⟨hO8, hids8, hB8⟩ := hI9.fin hF9 (by omega)
    refine zi rfl ?_
    refine zO ?_
    refine zF ?_
    refine zc ?_
    rw [hO8] at hS47
    have hS50 : Sep G W ((RBufO b most B9) :: (RefS b16 n T9) :: (RowE (α := Ev) own 36 vo (yn n L ((zu B).filter (fun x => !zA L x)))) :: Rs) w44 := hS47
    have hr51 := hS50.row (i := 2) rfl
    have hr51s : _ * 96 ≤ _ := hr51.2
    refine za (by kernel_rfl) (fun _ => ?_)
    refine st (zb (v := vo) rfl ?_)
    refine st (zd (v := vo) rfl ?_)
    refine ze ?_
    refine zw ?_
    refine zL Try.results28 (show _ = (vo : Value) from rfl) ?_
    have hS52 : Sep G W ((RowE (α := Ev) own 36 vo (yn n L ((zu B).filter (fun x => !zA L x)))) :: (RBufO b most B9) :: Rs) w44 := hS50.sel 3 [2, 0] (Nat.le_add_left _ _) rfl rfl
    refine ⟨vo, B9, ?_, ?_, ?_, hS52⟩
    · rfl
    · exact hids8
    · exact hB8
   ·skip
    have hc49r := hc49
    have hc49 := of_decide_eq_true hc49
    obtain ⟨q9, hcq9⟩ : ∃ q : Nat, c9 = (q : Int) := ⟨c9.toNat, by omega⟩
    subst hcq9
    obtain ⟨hq9, hcan9, hst9⟩ := hI9.step hF9
    have hal9 := xN (n := n) (L := T9) (e := B9.getD q9 default)
    refine zk rfl ?_
    refine zo ?_
    refine zc ?_
    refine zt ?_
    refine zc ?_
    obtain ⟨vl53, hS54⟩ := RBufO.open hS47
    have hS54t : Sep G W ((Blk b #[.int .i64 (most), vl53] 76) :: (EvW vl53 36 3 B9) :: (RefS b16 n T9) :: (RowE (α := Ev) own 36 vo O9) :: Rs) w44 := hS54
    have hes55 : B9.length * 96 ≤ 140737488355328 := (hS54t.evwSl (i := 1) rfl).2
    have hS56 := hS54t.mv1
    obtain ⟨G57, hA59, hB60, hS61, hk62⟩ := hS56.lend
    have hrd63 := EvW.rd hA59
    have hrd63s : _ * 96 ≤ _ := hrd63.small
    refine za (by kernel_rfl) (fun _ => ?_)
    refine st (zb (v := vo) rfl ?_)
    refine st (zb (v := .pointer (some ⟨b, 0, none⟩)) rfl ?_)
    refine st (zn (b := b) (o := 0) rfl ?_)
    refine st (yS rfl ?_)
    refine st (zg (v := vl53) Try.isAgg22 rfl (zf (hS61.blk (i := 0) rfl) rfl) ?_)
    refine st (zb (v := .int .i64 ((q9 : Nat) : Int)) rfl ?_)
    have hi64 : q9 < B9.length := (by first | omega | (simp only [lens]; omega))
    refine st (zl (k := 10) (i := q9) Try.underlying22 Try.sizeOf36 rfl hrd63.sl rfl hi64 ?_)
    have hi66 : q9 < B9.length := (by first | omega | (simp only [lens]; omega))
    obtain ⟨hce65, hde65_0, hoke65⟩ := hrd63.ev hi66
    rw [← zm default hi66] at hce65 hde65_0 hoke65
    have hsm67 : ((B9.getD q9 default).deps).length * 8 ≤ 140737488355328 := hde65_0.small
    have hcw68 := hS61.cells hce65 (hrd63.foot (ne_of_lt hi66))
    refine st (zr (k := 10) Try.isAgg36 Try.sizeOf36 rfl rfl hcw68 ?_)
    refine st (zj (f := 23) (vals := [.agg ((B9.getD q9 default).cells (zT w44 (sb vl53) (so vl53 + q9 * 10 + 3))).toArray]) (cap := []) rfl rfl Try.call23 (yJ (e := (B9.getD q9 default)) hde65_0 hoke65 hS61) ?_)
    rintro _ w70 ⟨v69, rfl, hS71⟩
    have hr72 := hS71.row (i := 0) rfl
    have hr72s : _ * 8 ≤ _ := hr72.2
    refine st (zD (k := 10) (parts' := [(0, .agg ((B9.getD q9 default).cells v69).toArray)]) (c := ((B9.getD q9 default).cells v69).toArray) Try.underlying22 Try.sizeOf36 Try.zeroValue36 (by decide) rfl (by kernel_rfl) ?_)
    intro w75 b74 hn73
    have hS76 := hS71.new hn73
    have hbk80 := hS76.blk (i := 0) rfl
    have hS81 : Sep G57 w44 ((RowE (α := Ev) own 36 vo O9) :: (RowE (α := Int) own 3 v69 ((B9.getD q9 default).deps)) :: (Blk b #[.int .i64 (most), vl53] 76) :: (RefS b16 n T9) :: Rs) w75 := hS76.sel 5 [4, 1, 2, 3] (Nat.le_add_left _ _) rfl rfl
    refine st (zZ (src := own) (bytes := 96) (x1 := (B9.getD q9 default)) hS81 xZ rfl rfl hbk80 (fun _ _ hN => ⟨_, rfl, RowE.soft hN, hoke65⟩) (by first | omega | (simp only [List.length_append, List.length_cons, List.length_nil, List.length_take, List.length_drop]; omega)) rfl ?_)
    intro v78 w77 hS79
    have hr82 := hS79.row (i := 0) rfl
    have hr82s : _ * 96 ≤ _ := hr82.2
    refine st (zd (v := v78) rfl ?_)
    refine ze ?_
    refine zc ?_
    refine za (by kernel_rfl) (fun _ => ?_)
    refine st (zb (v := .pointer (some ⟨b16, 0, none⟩)) rfl ?_)
    refine st (zb (v := .pointer (some ⟨b, 0, none⟩)) rfl ?_)
    refine st (zn (b := b) (o := 0) rfl ?_)
    refine st (yS rfl ?_)
    refine st (zg (v := vl53) Try.isAgg22 rfl (zf (hS79.blk (i := 1) rfl) rfl) ?_)
    refine st (zb (v := .int .i64 ((q9 : Nat) : Int)) rfl ?_)
    have hi83 : q9 < B9.length := (by first | omega | (simp only [lens]; omega))
    refine st (zl (k := 10) (i := q9) Try.underlying22 Try.sizeOf36 rfl hrd63.sl rfl hi83 ?_)
    have hcw85 := hS79.cells hce65 (hrd63.foot (ne_of_lt hi66))
    refine st (zr (k := 10) Try.isAgg36 Try.sizeOf36 rfl rfl hcw85 ?_)
    have hS86 := hS79.mv2
    refine st (zj (f := 22) (vals := [.pointer (some ⟨b16, 0, none⟩), .agg ((B9.getD q9 default).cells (zT w44 (sb vl53) (so vl53 + q9 * 10 + 3))).toArray]) (cap := []) rfl rfl Try.call22 (YE (e := (B9.getD q9 default)) hde65_0 hoke65 hS86 (by first | exact laidL_good | exact hI9.r.good) (hn9) (by first | omega | exact Nat.le_trans xB (by omega))) ?_)
    rintro _ w87 ⟨rfl, hS88⟩
    refine ze ?_
    have hS89 := hk62 _ _ hS88
    have hS90 := hS89.mv3
    have hS91 : Sep G W ((RBufO b most B9) :: (RefS b16 n (addL n T9 (B9.getD q9 default))) :: (RowE (α := Ev) own 36 v78 (O9 ++ [(B9.getD q9 default)])) :: Rs) w87 := RBufO.close (most := most) (B := B9) hS90
    refine za (by kernel_rfl) (fun _ => ?_)
    refine st (zb (v := .pointer (some ⟨b, 0, none⟩)) rfl ?_)
    refine st (zb (v := .int .i64 ((q9 : Nat) : Int)) rfl ?_)
    refine st (zj (f := 59) (vals := [.pointer (some ⟨b, 0, none⟩), .int .i64 ((q9 : Nat) : Int)]) (cap := []) rfl rfl Try.call59 (Kk (i := q9) (by first | omega | (refine ⟨?_, ?_⟩ <;> omega)) hS91 (by first | omega | (simp only [lens]; omega))) ?_)
    rintro _ w92 ⟨rfl, hS93⟩
    refine ze ?_
    refine za (by kernel_rfl) (fun _ => ?_)
    refine st (zb (v := .pointer (some ⟨b, 0, none⟩)) rfl ?_)
    refine st (zb (v := .pointer (some ⟨b16, 0, none⟩)) rfl ?_)
    obtain ⟨G94, hA96, hB97, hS98, hk99⟩ := hS93.lend
    obtain ⟨vl100, hb101, hl102⟩ := RBufO.sh hA96
    have hsm103 : (B9.eraseIdx q9).length * 96 ≤ 140737488355328 := hl102.small
    refine st (zj (f := 60) (vals := [.pointer (some ⟨b, 0, none⟩), .pointer (some ⟨b16, 0, none⟩)]) (cap := []) rfl rfl Try.call60 (VT  hA96 hS98 (by first | omega | (simp only [lens]; omega)) (by first | exact hG | exact hI9.r.good.addL) (hn9) (by omega)) ?_)
    rintro _ w107 ⟨c104, rfl, hcI105, hcF106, hS108⟩
    have hS109 := hk99 _ _ hS108
    refine st (zd (v := .int .i64 (c104)) rfl ?_)
    refine ze ?_
    exact ⟨_, (by rw [List.length_eraseIdx_of_lt hq9]; omega), _, _, _, c104, v78, _, rfl, zh ⟨rfl, rfl, rfl, rfl, trivial⟩, hcI105, hcF106, hst9, hS109⟩
  ·skip
   have hc23r := hc23
   have hc23 := of_decide_eq_true hc23
   refine zk rfl ?_
   refine zo ?_
   refine zc ?_
   refine zt ?_
   refine za (by kernel_rfl) (fun _ => ?_)
   refine st (zb (v := .pointer (some ⟨b16, 0, none⟩)) rfl ?_)
   refine st (zb (v := .pointer (some ⟨s, 0, none⟩)) rfl ?_)
   refine st (zn (b := s) (o := 0) rfl ?_)
   refine st (yI rfl ?_)
   refine st (zg (v := vl1) Try.isAgg22 rfl (zf (hS22.gblk hb2) rfl) ?_)
   refine st (zb (v := .int .i64 ((k : Nat) : Int)) rfl ?_)
   have hi110 : k < L.length := (by first | omega | (simp only [lens]; omega))
   refine st (zl (k := 10) (i := k) Try.underlying22 Try.sizeOf36 rfl hl3.sl rfl hi110 ?_)
   have hi112 : k < L.length := (by first | omega | (simp only [lens]; omega))
   obtain ⟨hce111, hde111_0, hoke111⟩ := hl3.ev hi112
   rw [← zm default hi112] at hce111 hde111_0 hoke111
   have hsm113 : ((L.getD k default).deps).length * 8 ≤ 140737488355328 := hde111_0.small
   have hcw114 := hS22.cells hce111 (hl3.foot (ne_of_lt hi112))
   refine st (zr (k := 10) Try.isAgg36 Try.sizeOf36 rfl rfl hcw114 ?_)
   refine st (zj (f := 22) (vals := [.pointer (some ⟨b16, 0, none⟩), .agg ((L.getD k default).cells (zT W (sb vl1) (so vl1 + k * 10 + 3))).toArray]) (cap := []) rfl rfl Try.call22 (YE (e := (L.getD k default)) hde111_0 hoke111 hS22 (by first | exact laidL_good | exact hI9.r.good) (hn9) (by first | omega | exact Nat.le_trans xB (by omega))) ?_)
   rintro _ w115 ⟨rfl, hS116⟩
   refine ze ?_
   refine za (by kernel_rfl) (fun _ => ?_)
   refine st (zb (v := .int .i64 ((k : Nat) : Int)) rfl ?_)
   have hr117 : InR ((k + 1 : Nat) : Int) := by first | omega | (simp only [lens]; omega)
   refine st (zB (r := ((k + 1 : Nat) : Int)) (k := .i64) (a := ((k : Nat) : Int)) (b := 1) rfl rfl (by rw [show (((k : Nat) : Int) + 1 : Int) = ((k + 1 : Nat) : Int) by first | omega | (simp only [lens]; omega)]; exact zy hr117) ?_)
   refine st (zd (v := .int .i64 ((k + 1 : Nat) : Int)) rfl ?_)
   refine ze ?_
   have hL118 : (yX n (L.take (k + 1))) = (addL n (yX n (L.take k)) (L.getD k default)) := (Yh (by omega)).symm
   rw [← hL118] at hS116
   exact ⟨_, by omega, k + 1, _, rfl, zh ⟨rfl, rfl, rfl, rfl, trivial⟩, by omega, hS116⟩
 ·skip
  have hc14r := hc14
  have hc14 := of_decide_eq_true hc14
  obtain ⟨j, rfl⟩ : ∃ j, k = j + 1 := ⟨k - 1, by omega⟩
  obtain ⟨hcl9, hca9⟩ := Jj (p := zA L) (B := B) (j := j) (by omega)
  have hcm9 := Kz (p := zA L) (B := B) (j := j + 1)
  refine zk rfl ?_
  refine zo ?_
  refine zc ?_
  refine zt ?_
  refine zc ?_
  obtain ⟨vl119, hS120⟩ := RBufO.open hS13
  have hS120t : Sep G W ((Blk b #[.int .i64 (most), vl119] 76) :: (EvW vl119 36 3 (yi (zA L) B (j + 1))) :: Rs) w10 := hS120
  have hes121 : (yi (zA L) B (j + 1)).length * 96 ≤ 140737488355328 := (hS120t.evwSl (i := 1) rfl).2
  have hS122 := hS120t.mv1
  obtain ⟨G123, hA125, hB126, hS127, hk128⟩ := hS122.lend
  have hrd129 := EvW.rd hA125
  have hrd129s : _ * 96 ≤ _ := hrd129.small
  refine za (by kernel_rfl) (fun _ => ?_)
  refine st (zb (v := .pointer (some ⟨s, 0, none⟩)) rfl ?_)
  refine st (zb (v := .pointer (some ⟨b, 0, none⟩)) rfl ?_)
  refine st (zn (b := b) (o := 0) rfl ?_)
  refine st (yS rfl ?_)
  refine st (zg (v := vl119) Try.isAgg22 rfl (zf (hS127.blk (i := 0) rfl) rfl) ?_)
  refine st (zb (v := .int .i64 ((j : Nat) : Int)) (show _ = (.int .i64 ((j : Nat) : Int) : Value) from (congrArg (Value.int .i64) (show (((j + 1 : Nat) : Int) - 1) = ((j : Nat) : Int) by omega))) ?_)
  have hi130 : j < (yi (zA L) B (j + 1)).length := (by first | omega | (simp only [lens]; omega))
  refine st (zl (k := 10) (i := j) Try.underlying22 Try.sizeOf36 rfl hrd129.sl rfl hi130 ?_)
  refine st (zS rfl ?_)
  have hi132 : j < (yi (zA L) B (j + 1)).length := (by first | omega | (simp only [lens]; omega))
  obtain ⟨hce131, hde131_0, hoke131⟩ := hrd129.ev hi132
  rw [← zm default hi132] at hce131 hde131_0 hoke131
  have hsm133 : (((yi (zA L) B (j + 1)).getD j default).deps).length * 8 ≤ 140737488355328 := hde131_0.small
  have hcw134 := hS127.cells hce131 (hrd129.foot (ne_of_lt hi132))
  refine st (zr (k := 2) (cs := [.int .i64 (((yi (zA L) B (j + 1)).getD j default).origin), .int .i64 (((yi (zA L) B (j + 1)).getD j default).seq)]) Try.isAgg33 Try.sizeOf33 rfl rfl (CellsAt.sub hcw134 0 (cs2 := [.int .i64 (((yi (zA L) B (j + 1)).getD j default).origin), .int .i64 (((yi (zA L) B (j + 1)).getD j default).seq)]) rfl) ?_)
  refine st (zj (f := 53) (vals := [.pointer (some ⟨s, 0, none⟩), .agg #[.int .i64 (((yi (zA L) B (j + 1)).getD j default).origin), .int .i64 (((yi (zA L) B (j + 1)).getD j default).seq)]]) (cap := []) rfl rfl Try.call53 (XW  (HP.base hs hB126) hoke131.origin hoke131.seq hS127) ?_)
  rintro _ w137 ⟨v135, rfl, hgo136, hS138⟩
  have hr139 := hS138.row (i := 0) rfl
  have hr139s : _ * 8 ≤ _ := hr139.2
  refine st (zb (v := .tuple #[.agg (((zq L ((((yi (zA L) B (j + 1)).getD j default).origin), (((yi (zA L) B (j + 1)).getD j default).seq))).getD default).cells v135).toArray, .bool (zq L ((((yi (zA L) B (j + 1)).getD j default).origin), (((yi (zA L) B (j + 1)).getD j default).seq))).isSome]) rfl ?_)
  refine st (zV (vs := [.agg (((zq L ((((yi (zA L) B (j + 1)).getD j default).origin), (((yi (zA L) B (j + 1)).getD j default).seq))).getD default).cells v135).toArray, .bool ((zq L ((((yi (zA L) B (j + 1)).getD j default).origin), (((yi (zA L) B (j + 1)).getD j default).seq))).isSome)]) (i := 0) (v := .agg (((zq L ((((yi (zA L) B (j + 1)).getD j default).origin), (((yi (zA L) B (j + 1)).getD j default).seq))).getD default).cells v135).toArray) rfl rfl ?_)
  refine st (zV (vs := [.agg (((zq L ((((yi (zA L) B (j + 1)).getD j default).origin), (((yi (zA L) B (j + 1)).getD j default).seq))).getD default).cells v135).toArray, .bool ((zq L ((((yi (zA L) B (j + 1)).getD j default).origin), (((yi (zA L) B (j + 1)).getD j default).seq))).isSome)]) (i := 1) (v := .bool ((zq L ((((yi (zA L) B (j + 1)).getD j default).origin), (((yi (zA L) B (j + 1)).getD j default).seq))).isSome)) rfl rfl ?_)
  refine st (ye Try.zeroValue36 ?_)
  intro w142 b141 hn140
  have hS143 := hS138.new hn140
  refine stn (zY (v := .agg (((zq L ((((yi (zA L) B (j + 1)).getD j default).origin), (((yi (zA L) B (j + 1)).getD j default).seq))).getD default).cells v135).toArray) (c' := (((zq L ((((yi (zA L) B (j + 1)).getD j default).origin), (((yi (zA L) B (j + 1)).getD j default).seq))).getD default).cells v135).toArray) Try.sizeOf36 rfl rfl (hS143.blk (i := 0) rfl) (yU ⟨rfl, rfl, rfl, hr139.1.one, rfl, rfl, rfl, rfl, rfl, rfl, trivial⟩) (Nat.le_of_ble_eq_true rfl) rfl ?_)
  intro w144 hp145
  have hS146 := hS143.pt0 hp145
  refine st (zd (v := .bool ((zq L ((((yi (zA L) B (j + 1)).getD j default).origin), (((yi (zA L) B (j + 1)).getD j default).seq))).isSome)) rfl ?_)
  refine ze ?_
  refine zc ?_
  have hS147 := hk128 _ _ hS146
  have hS148 := hS147.mv3
  have hS149 : Sep G W ((RBufO b most (yi (zA L) B (j + 1))) :: (Blk b141 (((zq L ((((yi (zA L) B (j + 1)).getD j default).origin), (((yi (zA L) B (j + 1)).getD j default).seq))).getD default).cells v135).toArray 36) :: (RowE (α := Int) own 3 v135 (((zq L ((((yi (zA L) B (j + 1)).getD j default).origin), (((yi (zA L) B (j + 1)).getD j default).seq))).getD default).deps)) :: Rs) w144 := RBufO.close (most := most) (B := (yi (zA L) B (j + 1))) hS148
  refine za (by kernel_rfl) (fun _ => ?_)
  refine st (zb (v := .bool ((zq L ((((yi (zA L) B (j + 1)).getD j default).origin), (((yi (zA L) B (j + 1)).getD j default).seq))).isSome)) rfl ?_)
  refine ze ?_
  cases hc150 : (zq L ((((yi (zA L) B (j + 1)).getD j default).origin), (((yi (zA L) B (j + 1)).getD j default).seq))).isSome
  ·skip
   have hc150r := hc150
   refine zi rfl ?_
   refine zo ?_
   have hS151 : Sep G W ((RBufO b most (yi (zA L) B (j + 1))) :: Rs) w144 := hS149.sel 3 [0] (Nat.le_add_left _ _) rfl rfl
   rw [QN (by omega) (by rw [← hca9]; exact hc150)] at hS151
   have hS152 : Sep G W ((RBufO b most (yi (zA L) B j)) :: Rs) w144 := hS151
   refine za (by kernel_rfl) (fun _ => ?_)
   refine st (zb (v := .int .i64 ((j : Nat) : Int)) (show _ = (.int .i64 ((j : Nat) : Int) : Value) from (congrArg (Value.int .i64) (show (((j + 1 : Nat) : Int) - 1) = ((j : Nat) : Int) by omega))) ?_)
   have hr153 : InR (((j : Nat) : Int) - 1) := by omega
   refine st (Za (r := ((j : Nat) : Int) - 1) (k := .i64) (a := ((j : Nat) : Int)) (b := 1) rfl rfl (zy hr153) ?_)
   refine st (zd (v := .int .i64 (((j : Nat) : Int) - 1)) rfl ?_)
   refine ze ?_
   exact ⟨_, by omega, j, _, rfl, zh ⟨rfl, rfl, rfl, trivial⟩, by omega, hS152⟩
  ·skip
   have hc150r := hc150
   refine zk rfl ?_
   refine za (by kernel_rfl) (fun _ => ?_)
   refine st (zb (v := .pointer (some ⟨b, 0, none⟩)) rfl ?_)
   refine st (zb (v := .int .i64 ((j : Nat) : Int)) (show _ = (.int .i64 ((j : Nat) : Int) : Value) from (congrArg (Value.int .i64) (show (((j + 1 : Nat) : Int) - 1) = ((j : Nat) : Int) by omega))) ?_)
   refine st (zj (f := 59) (vals := [.pointer (some ⟨b, 0, none⟩), .int .i64 ((j : Nat) : Int)]) (cap := []) rfl rfl Try.call59 (Kk (i := j) (by first | omega | (refine ⟨?_, ?_⟩ <;> omega)) hS149 (by first | omega | (simp only [lens]; omega))) ?_)
   rintro _ w154 ⟨rfl, hS155⟩
   refine ze ?_
   have hS156 : Sep G W ((RBufO b most ((yi (zA L) B (j + 1)).eraseIdx j)) :: Rs) w154 := hS155.sel 3 [0] (Nat.le_add_left _ _) rfl rfl
   rw [QV (by omega) (by rw [← hca9]; exact hc150)] at hS156
   have hS157 : Sep G W ((RBufO b most (yi (zA L) B j)) :: Rs) w154 := hS156
   refine za (by kernel_rfl) (fun _ => ?_)
   refine st (zb (v := .int .i64 ((j : Nat) : Int)) (show _ = (.int .i64 ((j : Nat) : Int) : Value) from (congrArg (Value.int .i64) (show (((j + 1 : Nat) : Int) - 1) = ((j : Nat) : Int) by omega))) ?_)
   have hr158 : InR (((j : Nat) : Int) - 1) := by omega
   refine st (Za (r := ((j : Nat) : Int) - 1) (k := .i64) (a := ((j : Nat) : Int)) (b := 1) rfl rfl (zy hr158) ?_)
   refine st (zd (v := .int .i64 (((j : Nat) : Int) - 1)) rfl ?_)
   refine ze ?_
   exact ⟨_, by omega, j, _, rfl, zh ⟨rfl, rfl, rfl, trivial⟩, by omega, hS157⟩

end Go.Proofs.Ytmiihhbeclhaoaa
end

section
/- Steps of the proofs of this seat: part E1. -/
set_option maxRecDepth 8000
set_option maxHeartbeats 4000000
namespace Go.Proofs.Ytmiihhbeclhaoaa
open Go.Proofs Go.RowKit

def evO : Ev := ⟨0, 1, 1, [0, 0], 0, 0, 0, 1, 1, 0⟩
def evT : Ev := ⟨1, 1, 2, [1, 0], 0, 0, 0, 1, 1, 0⟩
theorem Wi : evO.Ok := by constructor <;> decide
theorem Yi : evT.Ok := by constructor <;> decide
theorem kb1 : yF (max 0 (min 5 256)) [] evT = [evT] := by decide +kernel
theorem kb2 : yF (max 0 (min 5 256)) [evT] evT = [evT] := by decide +kernel
theorem kb3 : yn 2 [] ([evT].filter fun x => !zA [] x) = [] := by decide +kernel
theorem kb4 : yy 2 [] ([evT].filter fun x => !zA [] x) = [evT] := by decide +kernel
theorem kb5 : yF (max 0 (min 5 256)) [evT] evO = [evO, evT] := by decide +kernel
theorem kb6 : yn 2 [] ([evO, evT].filter fun x => !zA [] x) = [evO, evT] := by decide +kernel
theorem kb7 : yy 2 [] ([evO, evT].filter fun x => !zA [] x) = [] := by decide +kernel
theorem Qi {e : Ev} : Srt [e] := List.pairwise_singleton _ _
def xu (l : List Ev) (i : Nat) : Bool := (l.take i).any fun x => yC x (l.getD i default)
theorem KE {l : List Ev} {i k : Nat} (hk : k < i) (hi : i < l.length) (h : yC (l.getD k default) (l.getD i default) = true) : xu l i = true := by
  unfold xu
  rw [List.any_eq_true]
  refine ⟨l.getD k default, ?_, h⟩
  rw [zm _ (by omega)]
  exact List.mem_take_iff_getElem.2 ⟨k, by omega, rfl⟩
theorem Jx {l : List Ev} {i : Nat} (hi : i < l.length) (h : ∀ k, k < i → yC (l.getD k default) (l.getD i default) = false) : xu l i = false := by
  unfold xu
  rw [List.any_eq_false]
  intro x hx
  obtain ⟨k, hk, rfl⟩ := List.mem_take_iff_getElem.1 hx
  have := h k (by omega)
  rw [zm _ (by omega : k < l.length)] at this
  rw [this]; decide
theorem VY {G : Nat → Prop} {W w : World} {Rs : List HP}  (hS0 : Sep G W Rs w) : Ret Try.prog 34 [] w (fun r w' => ∃ (v : Value), r = (.agg (evO.cells v).toArray : Value) ∧ Sep G W ((RowE (α := Int) own 3 v evO.deps) :: Rs) w') := by
 refine zp (args := []) Try.func34 rfl rfl ?_
 refine zc ?_
 refine za (by kernel_rfl) (fun _ => ?_)
 refine st (ye Try.zeroValue36 ?_)
 intro w3 b2 hn1
 have hS4 := hS0.new hn1
 refine ze ?_
 refine zc ?_
 refine za (by kernel_rfl) (fun _ => ?_)
 refine st (yP (parts' := [(0, .int .i64 (0)), (1, .int .i64 (1))]) (v := .agg #[.int .i64 (0), .int .i64 (1)]) rfl (by simp [Instr.build, Instr.fill, go_sem, Ev.cells]) ?_)
 refine st (zD (k := 1) (parts' := [(0, .int .i64 (0)), (1, .int .i64 (0))]) (c := #[.int .i64 (0), .int .i64 (0)]) Try.underlying34 Try.sizeOf3 Try.zeroValue3 (by decide) rfl (by kernel_rfl) ?_)
 intro w7 b6 hn5
 have hS8 := hS4.new hn5
 have hS9 : Sep G W ((RowE (α := Int) own 3 (.slice (some ⟨b6, 0, none⟩) 2 2) [0, 0]) :: (Blk b2 #[.int .i64 (0), .int .i64 (0), .int .i64 (0), (.slice none 0 0), .int .i64 (0), .int .i64 (0), .int .i64 (0), .int .i64 (0), .int .i64 (0), .int .i64 (0)] 36) :: Rs) w7 := Sep.blkRow (src := own) (l := [0, 0]) (css := [[.int .i64 (0)], [.int .i64 (0)]]) hS8 rfl ⟨fun _ _ => ⟨rfl, (by decide)⟩, fun _ _ => ⟨rfl, (by decide)⟩, trivial⟩ (by first | decide | (simp only [List.length_cons, List.length_nil]; decide))
 have hr10 := hS9.row (i := 0) rfl
 have hr10s : _ * 8 ≤ _ := hr10.2
 have ok11 : Ev.Ok (⟨0, 1, 1, [0, 0], 0, 0, 0, 1, 1, 0⟩ : Ev) := ⟨(show InR (0) from (by decide)), (show InR (1) from (by decide)), (show InR (1) from (by decide)), (show InR (0) from (by decide)), (show InR (0) from (by decide)), (show InR (0) from (by decide)), (show InR (1) from (by decide)), (show InR (1) from (by decide)), (show InR (0) from (by decide))⟩
 refine st (yP (parts' := [(0, .agg #[.int .i64 (0), .int .i64 (1)]), (1, .int .i64 (1)), (2, (.slice (some ⟨b6, 0, none⟩) 2 2)), (6, .int .i64 (1)), (7, .int .i64 (1))]) (v := .agg ((⟨0, 1, 1, [0, 0], 0, 0, 0, 1, 1, 0⟩ : Ev).cells (.slice (some ⟨b6, 0, none⟩) 2 2)).toArray) rfl (by simp [Instr.build, Instr.fill, go_sem, Ev.cells]) ?_)
 refine stn (zY (v := .agg ((⟨0, 1, 1, [0, 0], 0, 0, 0, 1, 1, 0⟩ : Ev).cells (.slice (some ⟨b6, 0, none⟩) 2 2)).toArray) (c' := ((⟨0, 1, 1, [0, 0], 0, 0, 0, 1, 1, 0⟩ : Ev).cells (.slice (some ⟨b6, 0, none⟩) 2 2)).toArray) Try.sizeOf36 rfl rfl (hS9.blk (i := 1) rfl) (yU ⟨rfl, rfl, rfl, rfl, rfl, rfl, rfl, rfl, rfl, rfl, trivial⟩) (Nat.le_of_ble_eq_true rfl) rfl ?_)
 intro w12 hp13
 have hS14 := hS9.pt1 hp13
 refine ze ?_
 refine zw ?_
 refine KC (b := b2) Try.results34 Try.isAgg36 Try.sizeOf36 rfl rfl (CellsAt.all (hS14.blk (i := 1) rfl)) ?_
 have hS15 : Sep G W ((RowE (α := Int) own 3 (.slice (some ⟨b6, 0, none⟩) 2 2) [0, 0]) :: Rs) w12 := hS14.sel 2 [0] (Nat.le_add_left _ _) rfl rfl
 refine ⟨(.slice (some ⟨b6, 0, none⟩) 2 2), rfl, hS15⟩

theorem Ym {G : Nat → Prop} {W w : World} {Rs : List HP}  (hS0 : Sep G W Rs w) : Ret Try.prog 33 [] w (fun r w' => ∃ (v : Value), r = (.agg (evT.cells v).toArray : Value) ∧ Sep G W ((RowE (α := Int) own 3 v evT.deps) :: Rs) w') := by
 refine zp (args := []) Try.func33 rfl rfl ?_
 refine zc ?_
 refine za (by kernel_rfl) (fun _ => ?_)
 refine st (ye Try.zeroValue36 ?_)
 intro w3 b2 hn1
 have hS4 := hS0.new hn1
 refine ze ?_
 refine zc ?_
 refine za (by kernel_rfl) (fun _ => ?_)
 refine st (yP (parts' := [(0, .int .i64 (1)), (1, .int .i64 (1))]) (v := .agg #[.int .i64 (1), .int .i64 (1)]) rfl (by simp [Instr.build, Instr.fill, go_sem, Ev.cells]) ?_)
 refine st (zD (k := 1) (parts' := [(0, .int .i64 (1)), (1, .int .i64 (0))]) (c := #[.int .i64 (1), .int .i64 (0)]) Try.underlying34 Try.sizeOf3 Try.zeroValue3 (by decide) rfl (by kernel_rfl) ?_)
 intro w7 b6 hn5
 have hS8 := hS4.new hn5
 have hS9 : Sep G W ((RowE (α := Int) own 3 (.slice (some ⟨b6, 0, none⟩) 2 2) [1, 0]) :: (Blk b2 #[.int .i64 (0), .int .i64 (0), .int .i64 (0), (.slice none 0 0), .int .i64 (0), .int .i64 (0), .int .i64 (0), .int .i64 (0), .int .i64 (0), .int .i64 (0)] 36) :: Rs) w7 := Sep.blkRow (src := own) (l := [1, 0]) (css := [[.int .i64 (1)], [.int .i64 (0)]]) hS8 rfl ⟨fun _ _ => ⟨rfl, (by decide)⟩, fun _ _ => ⟨rfl, (by decide)⟩, trivial⟩ (by first | decide | (simp only [List.length_cons, List.length_nil]; decide))
 have hr10 := hS9.row (i := 0) rfl
 have hr10s : _ * 8 ≤ _ := hr10.2
 have ok11 : Ev.Ok (⟨1, 1, 2, [1, 0], 0, 0, 0, 1, 1, 0⟩ : Ev) := ⟨(show InR (1) from (by decide)), (show InR (1) from (by decide)), (show InR (2) from (by decide)), (show InR (0) from (by decide)), (show InR (0) from (by decide)), (show InR (0) from (by decide)), (show InR (1) from (by decide)), (show InR (1) from (by decide)), (show InR (0) from (by decide))⟩
 refine st (yP (parts' := [(0, .agg #[.int .i64 (1), .int .i64 (1)]), (1, .int .i64 (2)), (2, (.slice (some ⟨b6, 0, none⟩) 2 2)), (6, .int .i64 (1)), (7, .int .i64 (1))]) (v := .agg ((⟨1, 1, 2, [1, 0], 0, 0, 0, 1, 1, 0⟩ : Ev).cells (.slice (some ⟨b6, 0, none⟩) 2 2)).toArray) rfl (by simp [Instr.build, Instr.fill, go_sem, Ev.cells]) ?_)
 refine stn (zY (v := .agg ((⟨1, 1, 2, [1, 0], 0, 0, 0, 1, 1, 0⟩ : Ev).cells (.slice (some ⟨b6, 0, none⟩) 2 2)).toArray) (c' := ((⟨1, 1, 2, [1, 0], 0, 0, 0, 1, 1, 0⟩ : Ev).cells (.slice (some ⟨b6, 0, none⟩) 2 2)).toArray) Try.sizeOf36 rfl rfl (hS9.blk (i := 1) rfl) (yU ⟨rfl, rfl, rfl, rfl, rfl, rfl, rfl, rfl, rfl, rfl, trivial⟩) (Nat.le_of_ble_eq_true rfl) rfl ?_)
 intro w12 hp13
 have hS14 := hS9.pt1 hp13
 refine ze ?_
 refine zw ?_
 refine KC (b := b2) Try.results33 Try.isAgg36 Try.sizeOf36 rfl rfl (CellsAt.all (hS14.blk (i := 1) rfl)) ?_
 have hS15 : Sep G W ((RowE (α := Int) own 3 (.slice (some ⟨b6, 0, none⟩) 2 2) [1, 0]) :: Rs) w12 := hS14.sel 2 [0] (Nat.le_add_left _ _) rfl rfl
 refine ⟨(.slice (some ⟨b6, 0, none⟩) 2 2), rfl, hS15⟩

theorem Va {G : Nat → Prop} {W w : World} {Rs : List HP} {vl : Value} {l : List Ev} (hl : RdS W G vl l) {i : Nat} (hi : i < l.length) (hS0 : Sep G W Rs w) : Ret Try.prog 16 [vl, .int .i64 ((i : Nat) : Int)] w (fun r w' => r = (.bool ((xu l i)) : Value) ∧ Sep G W Rs w') := by
 have hls : _ * 96 ≤ _ := hl.small
 refine zp (args := [vl, .int .i64 ((i : Nat) : Int)]) Try.func16 rfl rfl ?_
 refine zc ?_
 refine za (by kernel_rfl) (fun _ => ?_)
 refine st (zd (v := .bool false) rfl ?_)
 refine ze ?_
 refine zc ?_
 refine zc ?_
 refine za (by kernel_rfl) (fun _ => ?_)
 refine st (zd (v := .int .i64 (0)) rfl ?_)
 refine ze ?_
 refine zt ?_
 refine zP (fun mq σ wq => ∃ (k : Nat) (ρ : Env), mq = i - k ∧ σ = zQ ρ [(0, vl), (1, .int .i64 ((i : Nat) : Int)), (5, .int .i64 ((k : Nat) : Int))] ∧ (k ≤ i) ∧ (∀ j, j < k → yC (l.getD j default) (l.getD i default) = false) ∧ Sep G W Rs wq) ⟨0, _, rfl, zh ⟨rfl, rfl, rfl, trivial⟩, Nat.zero_le _, (fun j h => absurd h (Nat.not_lt_zero j)), hS0⟩ ?_
 rintro m2 σ3 w1 ⟨k, ρl1, rfl, rfl, hkk, hm, hS4⟩
 refine zc ?_
 refine zc ?_
 refine za (by kernel_rfl) (fun _ => ?_)
 refine st (zb (v := .int .i64 ((k : Nat) : Int)) rfl ?_)
 refine st (zb (v := .int .i64 ((i : Nat) : Int)) rfl ?_)
 refine st (zH (k := .i64) (a := ((k : Nat) : Int)) (b := ((i : Nat) : Int)) rfl rfl ?_)
 refine ze ?_
 cases hc5 : decide (((k : Nat) : Int) < ((i : Nat) : Int))
 ·skip
  have hc5r := hc5
  have hc5 := of_decide_eq_false hc5
  refine zi rfl ?_
  refine zO ?_
  refine zF ?_
  refine zc ?_
  refine za (by kernel_rfl) (fun _ => ?_)
  refine st (zd (v := .bool false) rfl ?_)
  refine ze ?_
  refine zw ?_
  refine zL Try.results16 (show _ = (.bool false : Value) from rfl) ?_
  refine ⟨?_, hS4⟩
  rw [Jx hi (fun j hj => hm j (by omega))]
 ·skip
  have hc5r := hc5
  have hc5 := of_decide_eq_true hc5
  refine zk rfl ?_
  refine zo ?_
  refine zc ?_
  refine zt ?_
  refine zc ?_
  refine zM (WF [fun vals wq => Sep G W Rs wq]) (AF [Vl 0 (vl), Vl 1 (.int .i64 ((k : Nat) : Int)), Vl 2 (.pointer (some ⟨sb vl, so vl + k * 10, none⟩)), Vl 3 (.pointer (some ⟨sb vl, so vl + k * 10, none⟩)), Vl 4 (.agg #[.int .i64 ((l.getD k default).origin), .int .i64 ((l.getD k default).seq)]), Vl 5 (vl), Vl 6 (.int .i64 ((i : Nat) : Int)), Vl 7 (.pointer (some ⟨sb vl, so vl + i * 10, none⟩)), Vl 8 (.pointer (some ⟨sb vl, so vl + i * 10, none⟩)), Vl 9 (.agg #[.int .i64 ((l.getD i default).origin), .int .i64 ((l.getD i default).seq)]), Vl 10 (.bool (decide ((l.getD k default).origin = (l.getD i default).origin ∧ (l.getD k default).seq = (l.getD i default).seq)))]) [[], [], [0, 1], [0, 1, 2], [0, 1, 2, 3], [], [], [5, 6], [5, 6, 7], [5, 6, 7, 8], [0, 1, 2, 3, 4, 5, 6, 7, 8, 9]] [] [(0, 0), (0, 0), (0, 0), (0, 0), (0, 0), (0, 0), (0, 0), (0, 0), (0, 0), (0, 0), (0, 0)] (by kernel_rfl) (by kernel_rfl) (by kernel_rfl) rfl (by kernel_rfl) (by kernel_rfl) (fun _ h1 h2 h3 h4 _ => hS4.same h1 h2 h3 h4) ?_ (yc ⟨dA, dA, dA, dA, dA, dA, dA, dA, dA, dA, dA, trivial⟩) ⟨?_, ?_, ?_, ?_, ?_, ?_, ?_, ?_, ?_, ?_, ?_, trivial⟩ ?_
  ·intro k vals vals' w hv h
   match k, h with
   | 0, h => exact h
   | _ + 1, _ => trivial
  ·intro k97 vals w98 h101 h102 hW100 hA99
   refine obl rfl ?_
   exact zb (v := vl) rfl (fun vals' hv _ => ⟨rfl, hv⟩)
  ·intro k103 vals w104 h107 h108 hW106 hA105
   refine obl rfl ?_
   exact zb (v := .int .i64 ((k : Nat) : Int)) rfl (fun vals' hv _ => ⟨rfl, hv⟩)
  ·intro k109 vals w110 h113 h114 hW112 hA111
   obtain rfl : k109 = 0 := Nat.le_antisymm h114 h113
   have hS115 : Sep _ _ _ _ := hW112
   have e116 := hA111 0 (by decide)
   have e117 := hA111 1 (by decide)
   refine obl rfl ?_
   have hi118 : k < l.length := (by first | omega | (simp only [lens]; omega))
   exact zl (k := 10) (i := k) Try.underlying22 Try.sizeOf36 e116 hl.sl e117 hi118 (fun vals' hv _ => ⟨rfl, hv⟩)
  ·intro k119 vals w120 h123 h124 hW122 hA121
   have e125 := hA121 2 (by decide)
   refine obl rfl ?_
   exact zS e125 (fun vals' hv _ => ⟨rfl, hv⟩)
  ·intro k126 vals w127 h130 h131 hW129 hA128
   obtain rfl : k126 = 0 := Nat.le_antisymm h131 h130
   have hS132 : Sep _ _ _ _ := hW129
   have e133 := hA128 3 (by decide)
   refine obl rfl ?_
   have hi135 : k < l.length := (by first | omega | (simp only [lens]; omega))
   obtain ⟨hce134, hde134_0, hoke134⟩ := hl.ev hi135
   rw [← zm default hi135] at hce134 hde134_0 hoke134
   have hsm136 : ((l.getD k default).deps).length * 8 ≤ 140737488355328 := hde134_0.small
   have hcw137 := hS132.cells hce134 (hl.foot (ne_of_lt hi135))
   exact zr (k := 2) (cs := [.int .i64 ((l.getD k default).origin), .int .i64 ((l.getD k default).seq)]) Try.isAgg33 Try.sizeOf33 rfl e133 (CellsAt.sub hcw137 0 (cs2 := [.int .i64 ((l.getD k default).origin), .int .i64 ((l.getD k default).seq)]) rfl) (fun vals' hv _ => ⟨rfl, hv⟩)
  ·intro k138 vals w139 h142 h143 hW141 hA140
   refine obl rfl ?_
   exact zb (v := vl) rfl (fun vals' hv _ => ⟨rfl, hv⟩)
  ·intro k144 vals w145 h148 h149 hW147 hA146
   refine obl rfl ?_
   exact zb (v := .int .i64 ((i : Nat) : Int)) rfl (fun vals' hv _ => ⟨rfl, hv⟩)
  ·intro k150 vals w151 h154 h155 hW153 hA152
   obtain rfl : k150 = 0 := Nat.le_antisymm h155 h154
   have hS156 : Sep _ _ _ _ := hW153
   have e157 := hA152 5 (by decide)
   have e158 := hA152 6 (by decide)
   refine obl rfl ?_
   have hi159 : i < l.length := (by first | omega | (simp only [lens]; omega))
   exact zl (k := 10) (i := i) Try.underlying22 Try.sizeOf36 e157 hl.sl e158 hi159 (fun vals' hv _ => ⟨rfl, hv⟩)
  ·intro k160 vals w161 h164 h165 hW163 hA162
   have e166 := hA162 7 (by decide)
   refine obl rfl ?_
   exact zS e166 (fun vals' hv _ => ⟨rfl, hv⟩)
  ·intro k167 vals w168 h171 h172 hW170 hA169
   obtain rfl : k167 = 0 := Nat.le_antisymm h172 h171
   have hS173 : Sep _ _ _ _ := hW170
   have e174 := hA169 8 (by decide)
   refine obl rfl ?_
   have hi176 : i < l.length := (by first | omega | (simp only [lens]; omega))
   obtain ⟨hce175, hde175_0, hoke175⟩ := hl.ev hi176
   rw [← zm default hi176] at hce175 hde175_0 hoke175
   have hsm177 : ((l.getD i default).deps).length * 8 ≤ 140737488355328 := hde175_0.small
   have hcw178 := hS173.cells hce175 (hl.foot (ne_of_lt hi176))
   exact zr (k := 2) (cs := [.int .i64 ((l.getD i default).origin), .int .i64 ((l.getD i default).seq)]) Try.isAgg33 Try.sizeOf33 rfl e174 (CellsAt.sub hcw178 0 (cs2 := [.int .i64 ((l.getD i default).origin), .int .i64 ((l.getD i default).seq)]) rfl) (fun vals' hv _ => ⟨rfl, hv⟩)
  ·intro k179 vals w180 h183 h184 hW182 hA181
   obtain rfl : k179 = 0 := Nat.le_antisymm h184 h183
   have hS185 : Sep _ _ _ _ := hW182
   have e186 := hA181 4 (by decide)
   have e187 := hA181 9 (by decide)
   refine obl rfl ?_
   exact ZU (e := decide ((l.getD k default).origin = (l.getD i default).origin ∧ (l.getD k default).seq = (l.getD i default).seq)) (xs := #[.int .i64 ((l.getD k default).origin), .int .i64 ((l.getD k default).seq)]) (ys := #[.int .i64 ((l.getD i default).origin), .int .i64 ((l.getD i default).seq)]) Wy e186 e187 (fun vals' hv _ => ⟨rfl, hv⟩)
  intro vals w188 hW189 hA190
  have hS191 : Sep _ _ _ _ := hW189
  have e192 := hA190 10 (by decide)
  refine yb (kv := [(0, vl), (1, .int .i64 ((i : Nat) : Int)), (5, .int .i64 ((k : Nat) : Int)), (6, .int .i64 ((k : Nat) : Int)), (7, .int .i64 ((i : Nat) : Int)), (8, .bool true), (21, .bool (decide ((l.getD k default).origin = (l.getD i default).origin ∧ (l.getD k default).seq = (l.getD i default).seq)))]) ⟨rfl, rfl, rfl, rfl, rfl, rfl, (by exact e192), trivial⟩ (fun ρw188 => ?_)
  refine ze ?_
  cases hc193 : decide ((l.getD k default).origin = (l.getD i default).origin ∧ (l.getD k default).seq = (l.getD i default).seq)
  ·skip
   have hc193r := hc193
   have hc193 := of_decide_eq_false hc193
   refine zi rfl ?_
   refine zo ?_
   refine za (by kernel_rfl) (fun _ => ?_)
   refine st (zb (v := .int .i64 ((k : Nat) : Int)) rfl ?_)
   have hr194 : InR ((k + 1 : Nat) : Int) := by first | omega | (simp only [lens]; omega)
   refine st (zB (r := ((k + 1 : Nat) : Int)) (k := .i64) (a := ((k : Nat) : Int)) (b := 1) rfl rfl (by rw [show (((k : Nat) : Int) + 1 : Int) = ((k + 1 : Nat) : Int) by first | omega | (simp only [lens]; omega)]; exact zy hr194) ?_)
   refine st (zd (v := .int .i64 ((k + 1 : Nat) : Int)) rfl ?_)
   refine ze ?_
   exact ⟨_, by omega, k + 1, _, rfl, zh ⟨rfl, rfl, rfl, trivial⟩, by omega, (yE hm hc193r), hS191⟩
  ·skip
   have hc193r := hc193
   have hc193 := of_decide_eq_true hc193
   refine zk rfl ?_
   refine zc ?_
   refine za (by kernel_rfl) (fun _ => ?_)
   refine st (zd (v := .bool true) rfl ?_)
   refine ze ?_
   refine zw ?_
   refine zL Try.results16 (show _ = (.bool true : Value) from rfl) ?_
   refine ⟨?_, hS191⟩
   rw [KE (by omega) (by omega) hc193r]

theorem xi {G : Nat → Prop} {W w : World} {Rs : List HP}  (hS0 : Sep G W Rs w) : Ret Try.prog 9 [] w (fun r w' => r = (.bool true : Value) ∧ Sep G W Rs w') := by
 refine zp (args := []) Try.func9 rfl rfl ?_
 refine zc ?_
 refine za (by kernel_rfl) (fun _ => ?_)
 refine st (zd (v := .bool false) rfl ?_)
 refine ze ?_
 refine zc ?_
 refine za (by kernel_rfl) (fun _ => ?_)
 refine st (zj (f := 12) (vals := [.int .i64 (5)]) (cap := []) rfl rfl Try.call12 (ZC (x := 5) (by decide) hS0) ?_)
 rintro _ w2 ⟨b1, rfl, hS3⟩
 refine st (zd (v := .pointer (some ⟨b1, 0, none⟩)) rfl ?_)
 refine ze ?_
 refine zc ?_
 refine za (by kernel_rfl) (fun _ => ?_)
 refine st (zj (f := 11) (vals := [.int .i64 (2)]) (cap := []) rfl rfl Try.call11 (Zg (n := 2) (by first | omega | (refine ⟨?_, ?_⟩ <;> omega)) hS3) ?_)
 rintro _ w5 ⟨b4, rfl, hS6⟩
 refine st (zd (v := .pointer (some ⟨b4, 0, none⟩)) rfl ?_)
 refine ze ?_
 refine zc ?_
 refine zc ?_
 refine zW (by kernel_rfl) ?_
 refine st (zb (v := .pointer (some ⟨b1, 0, none⟩)) rfl ?_)
 refine st (yR (b := b1) (o := 0) Try.underlying28 rfl ?_)
 refine st (zb (v := .bool false) rfl ?_)
 refine sty rfl rfl (zb (v := .pointer (some ⟨b4, 0, none⟩)) rfl ?_)
 refine sty rfl rfl (yR (b := b4) (o := 0) Try.underlying26 rfl ?_)
 refine st (yo (v := .bool false) rfl rfl ?_)
 refine st (zb (v := .bool false) rfl ?_)
 refine sty rfl rfl (zb (v := .pointer (some ⟨b1, 0, none⟩)) rfl ?_)
 refine sty rfl rfl (zj (f := 33) (vals := []) (cap := []) rfl rfl Try.call33 (Ym  hS6) ?_)
 rintro _ w8 ⟨v7, rfl, hS9⟩
 have hr10 := hS9.row (i := 0) rfl
 have hr10s : _ * 8 ≤ _ := hr10.2
 obtain ⟨G11, hA13, hB14, hS15, hk16⟩ := hS9.lend
 have hrd17 := RowE.rd hA13
 have hrd17s : _ * 8 ≤ _ := hrd17.small
 have hS18 := hS15.mv1
 refine sty rfl rfl (zj (f := 14) (vals := [.pointer (some ⟨b1, 0, none⟩), .agg (evT.cells v7).toArray]) (cap := []) rfl rfl Try.call14 (xk (e := evT) hrd17 Yi hS18 (by decide) (by first | exact List.Pairwise.nil | exact Qi) (by decide)) ?_)
 rintro _ w19 ⟨rfl, hS20⟩
 have hS21 := hk16 _ _ hS20
 rw [kb1] at hS21
 have hS22 : Sep G W ((RowE (α := Int) own 3 v7 evT.deps) :: (BufO b1 (max 0 (min 5 256)) [evT]) :: (SetO b4 2 ([] : List Ev)) :: Rs) w19 := hS21
 have hkn23 : ((ya (max 0 (min 5 256)) ([] : List Ev) evT)) = true := (by decide +kernel)
 rw [hkn23]
 refine sty rfl rfl (yA (a := true) rfl ?_)
 refine st (yo (v := .bool false) rfl rfl ?_)
 refine st (zb (v := .bool false) rfl ?_)
 refine sty rfl rfl (zb (v := .pointer (some ⟨b1, 0, none⟩)) rfl ?_)
 refine sty rfl rfl (zj (f := 33) (vals := []) (cap := []) rfl rfl Try.call33 (Ym  hS22) ?_)
 rintro _ w25 ⟨v24, rfl, hS26⟩
 have hr27 := hS26.row (i := 0) rfl
 have hr27s : _ * 8 ≤ _ := hr27.2
 obtain ⟨G28, hA30, hB31, hS32, hk33⟩ := hS26.lend
 have hrd34 := RowE.rd hA30
 have hrd34s : _ * 8 ≤ _ := hrd34.small
 have hS35 := hS32.mv1
 refine sty rfl rfl (zj (f := 14) (vals := [.pointer (some ⟨b1, 0, none⟩), .agg (evT.cells v24).toArray]) (cap := []) rfl rfl Try.call14 (xk (e := evT) hrd34 Yi hS35 (by decide) (by first | exact List.Pairwise.nil | exact Qi) (by decide)) ?_)
 rintro _ w36 ⟨rfl, hS37⟩
 have hS38 := hk33 _ _ hS37
 rw [kb2] at hS38
 have hS39 : Sep G W ((RowE (α := Int) own 3 v24 evT.deps) :: (BufO b1 (max 0 (min 5 256)) [evT]) :: (RowE (α := Int) own 3 v7 evT.deps) :: (SetO b4 2 ([] : List Ev)) :: Rs) w36 := hS38
 have hkn40 : ((ya (max 0 (min 5 256)) [evT] evT)) = false := (by decide +kernel)
 rw [hkn40]
 refine st (yo (v := .bool false) rfl rfl ?_)
 refine st (zb (v := .bool false) rfl ?_)
 refine sty rfl rfl (zb (v := .pointer (some ⟨b1, 0, none⟩)) rfl ?_)
 refine sty rfl rfl (zb (v := .pointer (some ⟨b4, 0, none⟩)) rfl ?_)
 have hS41 := hS39.mv3
 obtain ⟨G42, hA44, hB45, hS46, hk47⟩ := hS41.lend
 obtain ⟨vv48, m49, R50, hb51, hv52, hr53⟩ := SetO.sh hA44
 have hsm54 : (zz 2 ([] : List Ev)).length * 8 ≤ 140737488355328 := hv52.small
 have hS55 := hS46.mv1
 refine sty rfl rfl (zj (f := 17) (vals := [.pointer (some ⟨b1, 0, none⟩), .pointer (some ⟨b4, 0, none⟩)]) (cap := []) rfl rfl Try.call17 (xH  hA44 hS55 (by decide) (Good.nil) (by decide) (by decide)) ?_)
 rintro v56 w57 ⟨_, rfl, hS58⟩
 have hr59 := hS58.row (i := 0) rfl
 have hr59s : _ * 96 ≤ _ := hr59.2
 have hS60 := hk47 _ _ hS58
 rw [kb3] at hS60
 have hS61 : Sep G W ((SetO b4 2 ([] : List Ev)) :: (RowE (α := Ev) own 36 v56 ([] : List Ev)) :: (BufO b1 (max 0 (min 5 256)) (yy 2 ([] : List Ev) ([evT].filter (fun x => !zA ([] : List Ev) x)))) :: (RowE (α := Int) own 3 v24 evT.deps) :: (RowE (α := Int) own 3 v7 evT.deps) :: Rs) w57 := hS60
 have hr62 := hS61.row (i := 1) rfl
 have hr62s : _ * 96 ≤ _ := hr62.2
 rw [kb4] at hS61
 have hS63 : Sep G W ((SetO b4 2 ([] : List Ev)) :: (RowE (α := Ev) own 36 v56 ([] : List Ev)) :: (BufO b1 (max 0 (min 5 256)) [evT]) :: (RowE (α := Int) own 3 v24 evT.deps) :: (RowE (α := Int) own 3 v7 evT.deps) :: Rs) w57 := hS61
 refine sty rfl rfl (zJ (n := ([] : List Ev).length) Try.underlying22 rfl hr62.1 ?_)
 refine sty rfl rfl (yH (k := .i64) (a := ((([] : List Ev).length : Nat) : Int)) (b := 0) rfl rfl ?_)
 have hkn64 : (!decide (((([] : List Ev).length : Nat) : Int) = 0)) = false := (by decide)
 rw [hkn64]
 refine st (yo (v := .bool false) rfl rfl ?_)
 refine st (zb (v := .bool false) rfl ?_)
 refine sty rfl rfl (zb (v := .pointer (some ⟨b1, 0, none⟩)) rfl ?_)
 refine sty rfl rfl (zj (f := 34) (vals := []) (cap := []) rfl rfl Try.call34 (VY  hS63) ?_)
 rintro _ w66 ⟨v65, rfl, hS67⟩
 have hr68 := hS67.row (i := 0) rfl
 have hr68s : _ * 8 ≤ _ := hr68.2
 obtain ⟨G69, hA71, hB72, hS73, hk74⟩ := hS67.lend
 have hrd75 := RowE.rd hA71
 have hrd75s : _ * 8 ≤ _ := hrd75.small
 have hS76 := hS73.mv2
 refine sty rfl rfl (zj (f := 14) (vals := [.pointer (some ⟨b1, 0, none⟩), .agg (evO.cells v65).toArray]) (cap := []) rfl rfl Try.call14 (xk (e := evO) hrd75 Wi hS76 (by decide) (by first | exact List.Pairwise.nil | exact Qi) (by decide)) ?_)
 rintro _ w77 ⟨rfl, hS78⟩
 have hS79 := hk74 _ _ hS78
 rw [kb5] at hS79
 have hS80 : Sep G W ((RowE (α := Int) own 3 v65 evO.deps) :: (BufO b1 (max 0 (min 5 256)) [evO, evT]) :: (SetO b4 2 ([] : List Ev)) :: (RowE (α := Ev) own 36 v56 ([] : List Ev)) :: (RowE (α := Int) own 3 v24 evT.deps) :: (RowE (α := Int) own 3 v7 evT.deps) :: Rs) w77 := hS79
 have hkn81 : ((ya (max 0 (min 5 256)) [evT] evO)) = true := (by decide +kernel)
 rw [hkn81]
 refine sty rfl rfl (yA (a := true) rfl ?_)
 refine st (yo (v := .bool false) rfl rfl ?_)
 refine ze ?_
 refine zi rfl ?_
 refine zo ?_
 refine zc ?_
 refine za (by kernel_rfl) (fun _ => ?_)
 refine st (zb (v := .pointer (some ⟨b1, 0, none⟩)) rfl ?_)
 refine st (zb (v := .pointer (some ⟨b4, 0, none⟩)) rfl ?_)
 have hS82 := hS80.mv2
 obtain ⟨G83, hA85, hB86, hS87, hk88⟩ := hS82.lend
 obtain ⟨vv89, m90, R91, hb92, hv93, hr94⟩ := SetO.sh hA85
 have hsm95 : (zz 2 ([] : List Ev)).length * 8 ≤ 140737488355328 := hv93.small
 have hS96 := hS87.mv1
 refine st (zj (f := 17) (vals := [.pointer (some ⟨b1, 0, none⟩), .pointer (some ⟨b4, 0, none⟩)]) (cap := []) rfl rfl Try.call17 (xH  hA85 hS96 (by decide) (Good.nil) (by decide) (by decide)) ?_)
 rintro v97 w98 ⟨_, rfl, hS99⟩
 have hr100 := hS99.row (i := 0) rfl
 have hr100s : _ * 96 ≤ _ := hr100.2
 have hS101 := hk88 _ _ hS99
 rw [kb6] at hS101
 have hS102 : Sep G W ((SetO b4 2 ([] : List Ev)) :: (RowE (α := Ev) own 36 v97 [evO, evT]) :: (BufO b1 (max 0 (min 5 256)) (yy 2 ([] : List Ev) ([evO, evT].filter (fun x => !zA ([] : List Ev) x)))) :: (RowE (α := Int) own 3 v65 evO.deps) :: (RowE (α := Ev) own 36 v56 ([] : List Ev)) :: (RowE (α := Int) own 3 v24 evT.deps) :: (RowE (α := Int) own 3 v7 evT.deps) :: Rs) w98 := hS101
 have hr103 := hS102.row (i := 1) rfl
 have hr103s : _ * 96 ≤ _ := hr103.2
 rw [kb7] at hS102
 have hS104 : Sep G W ((SetO b4 2 ([] : List Ev)) :: (RowE (α := Ev) own 36 v97 [evO, evT]) :: (BufO b1 (max 0 (min 5 256)) ([] : List Ev)) :: (RowE (α := Int) own 3 v65 evO.deps) :: (RowE (α := Ev) own 36 v56 ([] : List Ev)) :: (RowE (α := Int) own 3 v24 evT.deps) :: (RowE (α := Int) own 3 v7 evT.deps) :: Rs) w98 := hS102
 refine st (zd (v := v97) rfl ?_)
 refine ze ?_
 refine zc ?_
 refine zW (by kernel_rfl) ?_
 refine st (zb (v := v97) rfl ?_)
 refine st (zj (f := 34) (vals := []) (cap := []) rfl rfl Try.call34 (VY  hS104) ?_)
 rintro _ w106 ⟨v105, rfl, hS107⟩
 have hr108 := hS107.row (i := 0) rfl
 have hr108s : _ * 8 ≤ _ := hr108.2
 refine st (zj (f := 33) (vals := []) (cap := []) rfl rfl Try.call33 (Ym  hS107) ?_)
 rintro _ w110 ⟨v109, rfl, hS111⟩
 have hr112 := hS111.row (i := 0) rfl
 have hr112s : _ * 8 ≤ _ := hr112.2
 refine st (zD (k := 10) (parts' := [(0, .agg (evO.cells v105).toArray), (1, .agg (evT.cells v109).toArray)]) (c := #[.int .i64 (evO.origin), .int .i64 (evO.seq), .int .i64 (evO.lam), v105, .int .i64 (evO.typ), .int .i64 (evO.agg), .int .i64 (evO.field), .int .i64 (evO.op), .int .i64 (evO.arg), .int .i64 (evO.key), .int .i64 (evT.origin), .int .i64 (evT.seq), .int .i64 (evT.lam), v109, .int .i64 (evT.typ), .int .i64 (evT.agg), .int .i64 (evT.field), .int .i64 (evT.op), .int .i64 (evT.arg), .int .i64 (evT.key)]) Try.underlying22 Try.sizeOf36 Try.zeroValue36 (by decide) rfl (by kernel_rfl) ?_)
 intro w115 b114 hn113
 have hS116 := hS111.new hn113
 have hS117 := hS116.mv1
 obtain ⟨G118, hA120, hB121, hS122, hk123⟩ := hS117.lend
 have hrd124 := RowE.rd hA120
 have hrd124s : _ * 8 ≤ _ := hrd124.small
 have hS125 := hS122.mv1
 obtain ⟨G126, hA128, hB129, hS130, hk131⟩ := hS125.lend
 have hrd132 := RowE.rd hA128
 have hrd132s : _ * 8 ≤ _ := hrd132.small
 have hS133 := hS130.mv4
 obtain ⟨G134, hA136, hB137, hS138, hk139⟩ := hS133.lend
 have hrd140 := RowE.rd hA136
 have hrd140s : _ * 8 ≤ _ := hrd140.small
 have hS141 := hS138.mv5
 obtain ⟨G142, hA144, hB145, hS146, hk147⟩ := hS141.lend
 have hrd148 := RowE.rd hA144
 have hrd148s : _ * 8 ≤ _ := hrd148.small
 have hS149 := hS146.mv5
 obtain ⟨G150, hA152, hB153, hS154, hk155⟩ := hS149.lend
 have hrd156 := RowE.rd hA152
 have hrd156s : _ * 8 ≤ _ := hrd156.small
 have hS157 := hS154.mv2
 obtain ⟨G158, hA160, hB161, hS162, hk163⟩ := hS157.lend
 have hrd164 := RowE.rd hA160
 have hrd164s : _ * 96 ≤ _ := hrd164.small
 have hS165 : Sep G158 w115 ((RowE (α := Ev) (shr G158 w115) 36 (.slice (some ⟨b114, 0, none⟩) 2 2) [evO, evT]) :: (SetO b4 2 ([] : List Ev)) :: (BufO b1 (max 0 (min 5 256)) ([] : List Ev)) :: (RowE (α := Ev) own 36 v56 ([] : List Ev)) :: Rs) w115 := Sep.blkRow (src := (shr G158 w115)) (l := [evO, evT]) (css := [evO.cells v105, evT.cells v109]) hS162 rfl ⟨fun _ _ => ⟨_, rfl, (RdS.base (RdS.base (RdS.base (RdS.base hrd132 hB137) hB145) hB153) hB161), Wi⟩, fun _ _ => ⟨_, rfl, (RdS.base (RdS.base (RdS.base (RdS.base (RdS.base hrd124 hB129) hB137) hB145) hB153) hB161), Yi⟩, trivial⟩ (by first | decide | (simp only [List.length_cons, List.length_nil]; decide))
 have hr166 := hS165.row (i := 0) rfl
 have hr166s : _ * 96 ≤ _ := hr166.2
 obtain ⟨G167, hA169, hB170, hS171, hk172⟩ := hS165.lend
 have hrd173 := RowE.rdB hA169 hB170
 have hrd173s : _ * 96 ≤ _ := hrd173.small
 refine st (zj (f := 19) (vals := [v97, (.slice (some ⟨b114, 0, none⟩) 2 2)]) (cap := []) rfl rfl Try.call19 (xo (a := [evO, evT]) (va := v97) (b := [evO, evT]) (vb := (.slice (some ⟨b114, 0, none⟩) 2 2)) (RdS.base hrd164 hB170) hrd173 hS171) ?_)
 rintro _ w174 ⟨rfl, hS175⟩
 have hS176 := hk172 _ _ hS175
 have hS177 := hk163 _ _ hS176
 have hS178 : Sep G150 w115 ((RowE (α := Ev) own 36 v97 [evO, evT]) :: (SetO b4 2 ([] : List Ev)) :: (BufO b1 (max 0 (min 5 256)) ([] : List Ev)) :: (RowE (α := Ev) own 36 v56 ([] : List Ev)) :: Rs) w174 := hS177.sel 5 [0, 2, 3, 4] (Nat.le_add_left _ _) rfl rfl
 have hkn179 : (decide ([evO, evT] = [evO, evT])) = true := (by decide +kernel)
 rw [hkn179]
 refine st (zb (v := .bool true) rfl ?_)
 refine sty rfl rfl (zb (v := .pointer (some ⟨b1, 0, none⟩)) rfl ?_)
 have hS180 := hS178.mv2
 obtain ⟨G181, hA183, hB184, hS185, hk186⟩ := hS180.lend
 obtain ⟨vl187, hb188, hl189⟩ := BufO.sh hA183
 have hsm190 : ([] : List Ev).length * 96 ≤ 140737488355328 := hl189.small
 refine sty rfl rfl (zj (f := 18) (vals := [.pointer (some ⟨b1, 0, none⟩)]) (cap := []) rfl rfl Try.call18 (xL  hA183 hS185) ?_)
 rintro _ w191 ⟨rfl, hS192⟩
 have hS193 := hk186 _ _ hS192
 refine sty rfl rfl (yq (k := .i64) (a := ((([] : List Ev).length : Nat) : Int)) (b := 0) rfl rfl ?_)
 have hkn194 : (decide (((([] : List Ev).length : Nat) : Int) = 0)) = true := (by decide)
 rw [hkn194]
 refine st (yw (v := .bool true) rfl rfl ?_)
 refine st (zb (v := .bool true) rfl ?_)
 refine sty rfl rfl (zb (v := .pointer (some ⟨b4, 0, none⟩)) rfl ?_)
 have hS195 := hS193.mv2
 obtain ⟨G196, hA198, hB199, hS200, hk201⟩ := hS195.lend
 obtain ⟨vv202, m203, R204, hb205, hv206, hr207⟩ := SetO.sh hA198
 have hsm208 : (zz 2 ([] : List Ev)).length * 8 ≤ 140737488355328 := hv206.small
 refine sty rfl rfl (zj (f := 35) (vals := [.pointer (some ⟨b4, 0, none⟩)]) (cap := []) rfl rfl Try.call35 (D_Len  hA198 hS200 (by decide)) ?_)
 rintro _ w209 ⟨rfl, hS210⟩
 have hS211 := hk201 _ _ hS210
 refine sty rfl rfl (yq (k := .i64) (a := ((([] : List Ev).length : Nat) : Int)) (b := 0) rfl rfl ?_)
 have hkn212 : (decide (((([] : List Ev).length : Nat) : Int) = 0)) = true := (by decide)
 rw [hkn212]
 refine st (yw (v := .bool true) rfl rfl ?_)
 refine st (zd (v := .bool true) rfl ?_)
 refine ze ?_
 refine zw ?_
 refine zL Try.results9 (show _ = (.bool true : Value) from rfl) ?_
 have hS213 := hk155 _ _ hS211
 have hS214 := hk147 _ _ hS213
 have hS215 := hk139 _ _ hS214
 have hS216 := hk131 _ _ hS215
 have hS217 := hk123 _ _ hS216
 have hS218 : Sep G W Rs w209 := hS217.sel 9 [] (Nat.le_add_left _ _) rfl rfl
 refine ⟨rfl, hS218⟩

end Go.Proofs.Ytmiihhbeclhaoaa
end

section
/- Steps of the proofs of this seat: part E2. -/
set_option maxRecDepth 8000
set_option maxHeartbeats 4000000
namespace Go.Proofs.Ytmiihhbeclhaoaa
open Go.Proofs Go.RowKit

def evN (k : Nat) : Ev := ⟨1, ((k : Nat) : Int) + 1, 2, [1, 0], 0, 0, 0, 1, 1, 0⟩
theorem Jr {k : Nat} (h : k ≤ 1000) : (evN k).Ok := by constructor <;> first | (show InR (0 : Int); decide) | (show InR (1 : Int); decide) | (show InR (2 : Int); decide) | (show InR (((k : Nat) : Int) + 1); omega)
structure RoomI (m : Int) (k : Nat) (B : List Ev) : Prop where
  len : ((B.length : Nat) : Int) = min ((k : Nat) : Int) m
  srt : Srt B
  seq : ∀ x ∈ B, x.seq ≤ k
theorem RoomI.start {m : Int} (hm : 0 ≤ m) : RoomI m 0 [] := ⟨by show (0 : Int) = _; omega, List.Pairwise.nil, fun _ h => by simp at h⟩
theorem WL {m : Int} {B : List Ev} {e : Ev} (h : yf B e = false) : ya m B e = decide (((B.length : Nat) : Int) < m) := by
  unfold ya
  rw [h, Bool.or_false, Bool.eq_iff_iff]
  simp
theorem RoomI.step {m : Int} {k : Nat} {B : List Ev} (h : RoomI m k B) : ya m B (evN k) = decide (((k : Nat) : Int) < m) ∧ RoomI m (k + 1) (yF m B (evN k)) := by
  have hl := h.len
  have hh : yf B (evN k) = false := by
    unfold yf
    rw [List.any_eq_false]
    intro x hx he
    have h1 := h.seq x hx
    have h2 := xp.1 he
    unfold idE at h2
    have h3 : x.seq = ((k : Nat) : Int) + 1 := congrArg Prod.snd h2
    omega
  have h1 : ya m B (evN k) = decide (((k : Nat) : Int) < m) := by rw [WL hh]; congr 1; rw [eq_iff_iff]; omega
  refine ⟨h1, ?_⟩
  unfold yF
  rw [h1]
  by_cases hk : ((k : Nat) : Int) < m
  · rw [if_pos (decide_eq_true hk)]
    refine ⟨by rw [YY]; omega, YW h.srt (Wh hh), fun x hx => ?_⟩
    rcases xy.1 hx with rfl | hx
    · show ((k : Nat) : Int) + 1 ≤ ((k + 1 : Nat) : Int); omega
    · have := h.seq x hx; omega
  · rw [if_neg (by simpa using hk)]
    exact ⟨by omega, h.srt, fun x hx => by have := h.seq x hx; omega⟩
theorem Qk {m : Int} : ya m [] evT = decide (0 < m) := WL (m := m) (B := []) (e := evT) rfl
theorem XU {G : Nat → Prop} {W w : World} {Rs : List HP} {most : Int} (hmost : InR most) (hS0 : Sep G W Rs w) : Ret Try.prog 6 [.int .i64 (most)] w (fun r w' => r = (.bool true : Value) ∧ Sep G W Rs w') := by
 refine zp (args := [.int .i64 (most)]) Try.func6 rfl rfl ?_
 refine zc ?_
 refine za (by kernel_rfl) (fun _ => ?_)
 refine st (zd (v := .bool false) rfl ?_)
 refine ze ?_
 refine zc ?_
 refine za (by kernel_rfl) (fun _ => ?_)
 refine st (zb (v := .int .i64 (most)) rfl ?_)
 refine st (zj (f := 12) (vals := [.int .i64 (most)]) (cap := []) rfl rfl Try.call12 (ZC (x := most) hmost hS0) ?_)
 rintro _ w2 ⟨b1, rfl, hS3⟩
 refine st (zd (v := .pointer (some ⟨b1, 0, none⟩)) rfl ?_)
 refine ze ?_
 refine zc ?_
 refine zc ?_
 refine za (by kernel_rfl) (fun _ => ?_)
 refine st (zb (v := .pointer (some ⟨b1, 0, none⟩)) rfl ?_)
 refine st (yR (b := b1) (o := 0) Try.underlying28 rfl ?_)
 refine ze ?_
 refine zi rfl ?_
 refine zo ?_
 refine zc ?_
 refine za (by kernel_rfl) (fun _ => ?_)
 refine st (zb (v := .int .i64 (most)) rfl ?_)
 refine st (Zw (k := .i64) (a := most) (b := 256) rfl rfl ?_)
 refine st (Wb (k := .i64) (a := 0) (b := min most 256) rfl rfl ?_)
 refine st (zd (v := .int .i64 (max 0 (min most 256))) rfl ?_)
 refine ze ?_
 refine zc ?_
 refine zc ?_
 refine za (by kernel_rfl) (fun _ => ?_)
 refine st (zd (v := .int .i64 (0)) rfl ?_)
 refine ze ?_
 refine zt ?_
 refine zP (fun mq σ wq => ∃ (k : Nat) (B9 : List Ev) (ρ : Env), mq = 258 - k ∧ σ = zQ ρ [(0, .int .i64 (most)), (3, .pointer (some ⟨b1, 0, none⟩)), (4, .int .i64 (max 0 (min most 256))), (5, .int .i64 ((k : Nat) : Int))] ∧ (k ≤ 258) ∧ (RoomI (max 0 (min most 256)) k B9) ∧ Sep G W ((BufO b1 (max 0 (min most 256)) B9) :: Rs) wq) ⟨0, [], _, rfl, zh ⟨rfl, rfl, rfl, rfl, trivial⟩, Nat.zero_le _, (RoomI.start (by omega)), hS3⟩ ?_
 rintro m5 σ6 w4 ⟨k, B9, ρl1, rfl, rfl, hkk, hR9, hS7⟩
 have hRl9 := hR9.len
 refine zc ?_
 refine zc ?_
 refine za (by kernel_rfl) (fun _ => ?_)
 refine st (zb (v := .int .i64 ((k : Nat) : Int)) rfl ?_)
 refine st (zH (k := .i64) (a := ((k : Nat) : Int)) (b := 258) rfl rfl ?_)
 refine ze ?_
 cases hc8 : decide (((k : Nat) : Int) < 258)
 ·skip
  have hc8r := hc8
  have hc8 := of_decide_eq_false hc8
  refine zi rfl ?_
  refine zO ?_
  refine zF ?_
  refine zc ?_
  refine za (by kernel_rfl) (fun _ => ?_)
  refine st (zb (v := .pointer (some ⟨b1, 0, none⟩)) rfl ?_)
  refine st (zj (f := 26) (vals := [.pointer (some ⟨b1, 0, none⟩)]) (cap := []) rfl rfl Try.call26 (WT  hS7) ?_)
  rintro _ w9 ⟨rfl, hS10⟩
  refine ze ?_
  refine zc ?_
  refine zW (by kernel_rfl) ?_
  refine st (zb (v := .pointer (some ⟨b1, 0, none⟩)) rfl ?_)
  obtain ⟨G11, hA13, hB14, hS15, hk16⟩ := hS10.lend
  obtain ⟨vl17, hb18, hl19⟩ := BufO.sh hA13
  have hsm20 : ([] : List Ev).length * 96 ≤ 140737488355328 := hl19.small
  refine st (zj (f := 18) (vals := [.pointer (some ⟨b1, 0, none⟩)]) (cap := []) rfl rfl Try.call18 (xL  hA13 hS15) ?_)
  rintro _ w21 ⟨rfl, hS22⟩
  have hS23 := hk16 _ _ hS22
  refine st (yq (k := .i64) (a := ((([] : List Ev).length : Nat) : Int)) (b := 0) rfl rfl ?_)
  have hkn24 : (decide (((([] : List Ev).length : Nat) : Int) = 0)) = true := (by decide)
  rw [hkn24]
  refine st (zb (v := .bool true) rfl ?_)
  refine sty rfl rfl (zb (v := .pointer (some ⟨b1, 0, none⟩)) rfl ?_)
  refine sty rfl rfl (zj (f := 33) (vals := []) (cap := []) rfl rfl Try.call33 (Ym  hS23) ?_)
  rintro _ w26 ⟨v25, rfl, hS27⟩
  have hr28 := hS27.row (i := 0) rfl
  have hr28s : _ * 8 ≤ _ := hr28.2
  obtain ⟨G29, hA31, hB32, hS33, hk34⟩ := hS27.lend
  have hrd35 := RowE.rd hA31
  have hrd35s : _ * 8 ≤ _ := hrd35.small
  refine sty rfl rfl (zj (f := 14) (vals := [.pointer (some ⟨b1, 0, none⟩), .agg (evT.cells v25).toArray]) (cap := []) rfl rfl Try.call14 (xk (e := evT) hrd35 Yi hS33 ((by show InR (max 0 (min most 256)); omega)) (by first | exact hR9.srt | exact List.Pairwise.nil) (by first | omega | decide)) ?_)
  rintro _ w36 ⟨rfl, hS37⟩
  have hS38 := hk34 _ _ hS37
  refine sty rfl rfl (zb (v := .int .i64 (max 0 (min most 256))) rfl ?_)
  refine sty rfl rfl (xC (k := .i64) (a := max 0 (min most 256)) (b := 0) rfl rfl ?_)
  refine sty rfl rfl (KO (a := (ya (max 0 (min most 256)) ([] : List Ev) evT)) (b := decide (0 < (max 0 (min most 256)))) Try.underlying4 rfl rfl ?_)
  have hkn39 : ((ya (max 0 (min most 256)) ([] : List Ev) evT) == (decide (0 < (max 0 (min most 256))))) = true := (by rw [Qk]; simp)
  rw [hkn39]
  refine st (yw (v := .bool true) rfl rfl ?_)
  refine st (zb (v := .bool true) rfl ?_)
  refine sty rfl rfl (zj (f := 9) (vals := []) (cap := []) rfl rfl Try.call9 (xi  hS38) ?_)
  rintro _ w40 ⟨rfl, hS41⟩
  refine st (yw (v := .bool true) rfl rfl ?_)
  refine st (zd (v := .bool true) rfl ?_)
  refine ze ?_
  refine zw ?_
  refine zL Try.results6 (show _ = (.bool true : Value) from rfl) ?_
  have hS42 : Sep G W Rs w40 := hS41.sel 2 [] (Nat.le_add_left _ _) rfl rfl
  refine ⟨rfl, hS42⟩
 ·skip
  have hc8r := hc8
  have hc8 := of_decide_eq_true hc8
  refine zk rfl ?_
  refine zo ?_
  refine zc ?_
  refine zt ?_
  refine zc ?_
  refine za (by kernel_rfl) (fun _ => ?_)
  refine st (zj (f := 33) (vals := []) (cap := []) rfl rfl Try.call33 (Ym  hS7) ?_)
  rintro _ w44 ⟨v43, rfl, hS45⟩
  have hr46 := hS45.row (i := 0) rfl
  have hr46s : _ * 8 ≤ _ := hr46.2
  refine st (ye Try.zeroValue36 ?_)
  intro w49 b48 hn47
  have hS50 := hS45.new hn47
  refine stn (zY (v := .agg (evT.cells v43).toArray) (c' := (evT.cells v43).toArray) Try.sizeOf36 rfl rfl (hS50.blk (i := 0) rfl) (yU ⟨rfl, rfl, rfl, hr46.1.one, rfl, rfl, rfl, rfl, rfl, rfl, trivial⟩) (Nat.le_of_ble_eq_true rfl) rfl ?_)
  intro w51 hp52
  have hS53 := hS50.pt0 hp52
  refine ze ?_
  refine zc ?_
  refine za (by kernel_rfl) (fun _ => ?_)
  refine st (zb (v := .int .i64 ((k : Nat) : Int)) rfl ?_)
  have hr54 : InR ((k + 1 : Nat) : Int) := by first | omega | (simp only [lens]; omega)
  refine st (zB (r := ((k + 1 : Nat) : Int)) (k := .i64) (a := ((k : Nat) : Int)) (b := 1) rfl rfl (by rw [show (((k : Nat) : Int) + 1 : Int) = ((k + 1 : Nat) : Int) by first | omega | (simp only [lens]; omega)]; exact zy hr54) ?_)
  refine st (zS rfl ?_)
  refine st (xg rfl ?_)
  refine stn (yd (v := .int .i64 ((k + 1 : Nat) : Int)) (c := [.int .i64 (evT.origin), .int .i64 (evT.seq), .int .i64 (evT.lam), v43, .int .i64 (evT.typ), .int .i64 (evT.agg), .int .i64 (evT.field), .int .i64 (evT.op), .int .i64 (evT.arg), .int .i64 (evT.key)]) (c' := [.int .i64 (evT.origin), .int .i64 ((k + 1 : Nat) : Int), .int .i64 (evT.lam), v43, .int .i64 (evT.typ), .int .i64 (evT.agg), .int .i64 (evT.field), .int .i64 (evT.op), .int .i64 (evT.arg), .int .i64 (evT.key)]) Try.sizeOf3 rfl rfl (hS53.blk (i := 0) rfl) rfl rfl rfl ?_)
  intro w55 hp56
  have hS57 := hS53.pt0 hp56
  refine ze ?_
  refine zc ?_
  obtain ⟨hadd9, hR8⟩ := hR9.step; have hRm9 := hR8.len
  refine zW (by kernel_rfl) ?_
  refine st (zb (v := .pointer (some ⟨b1, 0, none⟩)) rfl ?_)
  refine st (zr (k := 10) Try.isAgg36 Try.sizeOf36 rfl rfl (CellsAt.all (hS57.blk (i := 0) rfl)) ?_)
  have hS58 := hS57.mv1
  obtain ⟨G59, hA61, hB62, hS63, hk64⟩ := hS58.lend
  have hrd65 := RowE.rd hA61
  have hrd65s : _ * 8 ≤ _ := hrd65.small
  have hS66 := hS63.mv1
  refine st (zj (f := 14) (vals := [.pointer (some ⟨b1, 0, none⟩), .agg ((evN k).cells v43).toArray]) (cap := []) rfl rfl Try.call14 (xk (e := (evN k)) hrd65 (Jr (by omega)) hS66 ((by show InR (max 0 (min most 256)); omega)) (by first | exact hR9.srt | exact List.Pairwise.nil) (by first | omega | decide)) ?_)
  rintro _ w67 ⟨rfl, hS68⟩
  have hS69 := hk64 _ _ hS68
  refine st (zb (v := .int .i64 ((k : Nat) : Int)) rfl ?_)
  refine st (zb (v := .int .i64 (max 0 (min most 256))) rfl ?_)
  refine st (zH (k := .i64) (a := ((k : Nat) : Int)) (b := max 0 (min most 256)) rfl rfl ?_)
  refine st (Uh (a := (ya (max 0 (min most 256)) B9 (evN k))) (b := decide (((k : Nat) : Int) < (max 0 (min most 256)))) Try.underlying4 rfl rfl ?_)
  have hkn70 : (!((ya (max 0 (min most 256)) B9 (evN k)) == (decide (((k : Nat) : Int) < (max 0 (min most 256)))))) = false := (by rw [hadd9]; simp)
  rw [hkn70]
  refine st (zb (v := .bool false) rfl ?_)
  refine sty rfl rfl (zb (v := .pointer (some ⟨b1, 0, none⟩)) rfl ?_)
  have hS71 := hS69.mv1
  obtain ⟨G72, hA74, hB75, hS76, hk77⟩ := hS71.lend
  obtain ⟨vl78, hb79, hl80⟩ := BufO.sh hA74
  have hsm81 : (yF (max 0 (min most 256)) B9 (evN k)).length * 96 ≤ 140737488355328 := hl80.small
  refine sty rfl rfl (zj (f := 18) (vals := [.pointer (some ⟨b1, 0, none⟩)]) (cap := []) rfl rfl Try.call18 (xL  hA74 hS76) ?_)
  rintro _ w82 ⟨rfl, hS83⟩
  have hS84 := hk77 _ _ hS83
  refine sty rfl rfl (zb (v := .int .i64 ((k : Nat) : Int)) rfl ?_)
  have hr85 : InR ((k + 1 : Nat) : Int) := by first | omega | (simp only [lens]; omega)
  refine sty rfl rfl (zB (r := ((k + 1 : Nat) : Int)) (k := .i64) (a := ((k : Nat) : Int)) (b := 1) rfl rfl (by rw [show (((k : Nat) : Int) + 1 : Int) = ((k + 1 : Nat) : Int) by first | omega | (simp only [lens]; omega)]; exact zy hr85) ?_)
  refine sty rfl rfl (zb (v := .int .i64 (max 0 (min most 256))) rfl ?_)
  refine sty rfl rfl (Zw (k := .i64) (a := ((k + 1 : Nat) : Int)) (b := max 0 (min most 256)) rfl rfl ?_)
  refine sty rfl rfl (yH (k := .i64) (a := (((yF (max 0 (min most 256)) B9 (evN k)).length : Nat) : Int)) (b := min ((k + 1 : Nat) : Int) (max 0 (min most 256))) rfl rfl ?_)
  have hkn86 : (!decide ((((yF (max 0 (min most 256)) B9 (evN k)).length : Nat) : Int) = (min ((k + 1 : Nat) : Int) (max 0 (min most 256))))) = false := (by rw [Bool.not_eq_false', decide_eq_true_eq]; omega)
  rw [hkn86]
  refine st (yo (v := .bool false) rfl rfl ?_)
  refine ze ?_
  refine zi rfl ?_
  refine zo ?_
  refine za (by kernel_rfl) (fun _ => ?_)
  refine st (zb (v := .int .i64 ((k : Nat) : Int)) rfl ?_)
  have hr87 : InR ((k + 1 : Nat) : Int) := by first | omega | (simp only [lens]; omega)
  refine st (zB (r := ((k + 1 : Nat) : Int)) (k := .i64) (a := ((k : Nat) : Int)) (b := 1) rfl rfl (by rw [show (((k : Nat) : Int) + 1 : Int) = ((k + 1 : Nat) : Int) by first | omega | (simp only [lens]; omega)]; exact zy hr87) ?_)
  refine st (zd (v := .int .i64 ((k + 1 : Nat) : Int)) rfl ?_)
  refine ze ?_
  have hS88 : Sep G W ((BufO b1 (max 0 (min most 256)) (yF (max 0 (min most 256)) B9 (evN k))) :: Rs) w82 := hS84.sel 3 [0] (Nat.le_add_left _ _) rfl rfl
  exact ⟨_, by omega, k + 1, (yF (max 0 (min most 256)) B9 (evN k)), _, rfl, zh ⟨rfl, rfl, rfl, rfl, trivial⟩, by omega, hR8, hS88⟩

end Go.Proofs.Ytmiihhbeclhaoaa
end

section
/- Plain laws of chapter 25: the first ones of each Id; what is told can be added; nothing is lost. -/
namespace Go.Proofs.Ytmiihhbeclhaoaa
open Go.Proofs Go.RowKit

def zK (l : List Ev) : Nat → List Ev
  | 0 => []
  | k + 1 => if xu l k = true then zK l k else zK l k ++ [l.getD k default]
def XT (n : Nat) : List Ev → List Ev → Prop
  | _, [] => True
  | T, e :: O => zU n T e = 0 ∧ XT n (addL n T e) O
section
variable {l A B L T O : List Ev} {e x : Ev} {n k : Nat} {m : Int}
theorem xX (h : xu l k = true) : zK l (k + 1) = zK l k := by show (if xu l k = true then _ else _) = _; rw [if_pos h]
theorem Zf (h : xu l k = false) : zK l (k + 1) = zK l k ++ [l.getD k default] := by show (if xu l k = true then _ else _) = _; rw [if_neg (by rw [h]; decide)]
theorem Vw {a b c : Ev} (h1 : yC a b = true) (h2 : yC b c = true) : yC a c = true := xp.2 ((xp.1 h1).trans (xp.1 h2))
theorem ZA (hk : k < l.length) : l.take (k + 1) = l.take k ++ [l.getD k default] := by rw [List.take_succ_eq_append_getElem hk, zm _ hk]
theorem Ky : yf (A ++ [x]) e = (yf A e || yC x e) := by unfold yf; simp [List.any_append]
theorem Um : ∀ {k : Nat}, k ≤ l.length → yf (zK l k) e = (l.take k).any fun x => yC x e
  | 0, _ => by rw [List.take_zero]; rfl
  | k + 1, hk => by
    have ih := Um (k := k) (Nat.le_of_lt hk)
    rw [ZA hk, List.any_append]
    have h1 : ([l.getD k default].any fun x => yC x e) = yC (l.getD k default) e := by simp
    rw [h1]
    cases hb : xu l k with
    | true =>
      rw [xX hb, ih]
      cases hs : yC (l.getD k default) e with
      | false => rw [Bool.or_false]
      | true =>
        unfold xu at hb
        rw [List.any_eq_true] at hb
        obtain ⟨x, hx, hxs⟩ := hb
        have h3 : ((l.take k).any fun x => yC x e) = true := List.any_eq_true.2 ⟨x, hx, Vw hxs hs⟩
        rw [h3]; rfl
    | false => rw [Zf hb, Ky, ih]
theorem VP (hk : k ≤ l.length) : xu l k = yf (zK l k) (l.getD k default) := (Um hk).symm
theorem YD : ∀ {k : Nat}, k ≤ l.length → ((zK l k).map idE).Nodup
  | 0, _ => List.Pairwise.nil
  | k + 1, hk => by
    have ih := YD (Nat.le_of_lt hk)
    cases hb : xu l k with
    | true => rw [xX hb]; exact ih
    | false =>
      have h1 := Wh (B := zK l k) (e := l.getD k default) (by rw [← VP (Nat.le_of_lt hk)]; exact hb)
      rw [Zf hb, List.map_append]
      exact List.nodup_append.2 ⟨ih, List.pairwise_singleton _ _, fun a ha b hb' e => h1 (by rw [List.mem_singleton.1 hb'] at e; rw [← e]; exact ha)⟩
theorem Zs : (zK l k).length ≤ k := by
  induction k with
  | zero => exact Nat.le_refl _
  | succ k ih =>
    cases hb : xu l k with
    | true => rw [xX hb]; omega
    | false => rw [Zf hb, List.length_append, List.length_singleton]; omega
theorem WK (h : A.Perm B) : yf A e = yf B e := by
  unfold yf
  rw [Bool.eq_iff_iff, List.any_eq_true, List.any_eq_true]
  exact ⟨fun ⟨x, hx, hs⟩ => ⟨x, h.mem_iff.1 hx, hs⟩, fun ⟨x, hx, hs⟩ => ⟨x, h.mem_iff.2 hx, hs⟩⟩
theorem yD : (zu l).length = l.length := sortE_perm.length_eq
theorem ZV (hm : ((A.length : Nat) : Int) < m) : ya m (zu A) e = !yf A e ∧ yF m (zu A) e = if yf A e = true then zu A else zu (A ++ [e]) := by
  have h1 : ya m (zu A) e = !yf A e := by
    unfold ya
    rw [WK sortE_perm, yD, decide_eq_false (by omega), Bool.false_or]
  refine ⟨h1, ?_⟩
  unfold yF
  rw [h1, sortE_snoc]
  cases yf A e <;> rfl
theorem UK (hk : k < l.length) (hm : ((l.length : Nat) : Int) < m) : ya m (zu (zK l k)) (l.getD k default) = !xu l k ∧ yF m (zu (zK l k)) (l.getD k default) = zu (zK l (k + 1)) := by
  have h0 := Zs (l := l) (k := k)
  obtain ⟨h1, h2⟩ := ZV (A := zK l k) (e := l.getD k default) (m := m) (by omega)
  rw [← VP (Nat.le_of_lt hk)] at h1 h2
  refine ⟨h1, h2.trans ?_⟩
  cases hb : xu l k with
  | true => rw [if_pos rfl, xX hb]
  | false => rw [if_neg (by decide), Zf hb]
theorem QB (h1 : zA L (l.getD k default) = true) (h2 : xu l k = false) : ((zK l (k + 1)).filter (zA L)).length = ((zK l k).filter (zA L)).length + 1 := by
  rw [Zf h2, List.filter_append, List.filter_cons, if_pos h1, List.filter_nil, List.length_append]; rfl
theorem Ui (h : zA L (l.getD k default) = false ∨ xu l k = true) : ((zK l (k + 1)).filter (zA L)).length = ((zK l k).filter (zA L)).length := by
  cases h2 : xu l k with
  | true => rw [xX h2]
  | false =>
    have h1 : zA L (l.getD k default) = false := h.resolve_right (by rw [h2]; decide)
    rw [Zf h2, List.filter_append, List.filter_cons, if_neg (by rw [h1]; decide), List.filter_nil, List.append_nil]
theorem Wo {p : Ev → Bool} : ∀ {B : List Ev}, (B.filter fun x => !p x).length + (B.filter p).length = B.length
  | [] => rfl
  | x :: B => by
    have ih := Wo (p := p) (B := B)
    rw [List.filter_cons, List.filter_cons]
    cases hp : p x
    · simp only [Bool.not_false, if_true, Bool.false_eq_true, if_false, List.length_cons]; omega
    · simp only [Bool.not_true, if_true, Bool.false_eq_true, if_false, List.length_cons]; omega
theorem UC : (∀ i, i < B.length → xj n T (B.getD i default) = false) ∨ ∃ q, q < B.length ∧ xj n T (B.getD q default) = true ∧ ∀ i, i < q → xj n T (B.getD i default) = false := by
  cases h : B.findIdx? (xj n T) with
  | none =>
    left
    rw [List.findIdx?_eq_none_iff] at h
    exact fun i hi => h _ (xb hi)
  | some q =>
    right
    rw [List.findIdx?_eq_some_iff_getElem] at h
    obtain ⟨hq, h1, h2⟩ := h
    refine ⟨q, hq, by rw [zm _ hq]; exact h1, fun i hi => ?_⟩
    have := h2 i hi
    rw [zm _ (by omega)]
    simpa using this
theorem Vm {q : Nat} (hq : q < B.length) : B.Perm (B.getD q default :: B.eraseIdx q) := by
  rw [zm _ hq, List.eraseIdx_eq_take_drop_succ]
  conv => lhs; rw [← List.take_append_drop q B, List.drop_eq_getElem_cons hq]
  exact List.perm_middle
theorem Yz : ∀ (k : Nat) {T B : List Ev}, B.length = k → XT n T (yn n T B) ∧ (yn n T B ++ yy n T B).Perm B ∧ ∀ e ∈ yy n T B, xj n ((yn n T B).foldl (addL n) T) e = false := by
  intro k
  induction k with
  | zero =>
    intro T B hB
    obtain ⟨h1, h2⟩ := ZK (n := n) (T := T) (B := B) (fun i hi => by omega)
    rw [h1, h2]
    exact ⟨trivial, List.Perm.refl _, fun e he => by rw [List.length_eq_zero_iff.1 hB] at he; simp at he⟩
  | succ k ih =>
    intro T B hB
    rcases UC (n := n) (T := T) (B := B) with h | ⟨q, hq, hc, hm⟩
    · obtain ⟨h1, h2⟩ := ZK h
      rw [h1, h2]
      refine ⟨trivial, List.Perm.refl _, fun e he => ?_⟩
      obtain ⟨i, hi, rfl⟩ := List.getElem_of_mem he
      have := h i hi
      rw [zm _ hi] at this; exact this
    · obtain ⟨h1, h2⟩ := Ww hq hc hm
      have hl : (B.eraseIdx q).length = k := by rw [List.length_eraseIdx_of_lt hq]; omega
      obtain ⟨i1, i2, i3⟩ := ih (T := addL n T (B.getD q default)) hl
      rw [h1, h2]
      refine ⟨⟨of_decide_eq_true hc, i1⟩, ?_, fun e he => i3 e he⟩
      rw [List.cons_append]
      exact (i2.cons _).trans (Vm hq).symm
theorem WV : ∀ {O T : List Ev} {k : Nat}, XT n T O → k < O.length → zU n ((O.take k).foldl (addL n) T) (O.getD k default) = 0
  | e :: O, T, 0, h, _ => h.1
  | e :: O, T, k + 1, h, hk => WV (O := O) (k := k) h.2 (by simpa using hk)
theorem UM (hk : k < O.length) : (O.take (k + 1)).foldl (addL n) L = addL n ((O.take k).foldl (addL n) L) (O.getD k default) := by
  rw [ZA hk, List.foldl_append]; rfl
theorem UD : x ∈ addL n T e → x = e ∨ x ∈ T := by
  unfold addL
  split
  · exact fun h => xy.1 h
  · exact fun h => .inr h
theorem Vd : ∀ {O T : List Ev}, x ∈ O.foldl (addL n) T → x ∈ T ∨ x ∈ O
  | [], T, h => .inl h
  | e :: O, T, h => by
    rcases Vd (O := O) h with h | h
    · rcases UD h with rfl | h
      · exact .inr (List.mem_cons_self ..)
      · exact .inl h
    · exact .inr (List.mem_cons_of_mem _ h)
theorem VX : zA T e = true ↔ ∃ x ∈ T, idE x = idE e := by
  unfold zA
  constructor
  · intro h
    obtain ⟨x, _, hx, he⟩ := Yb h
    exact ⟨x, hx, he⟩
  · rintro ⟨x, hx, he⟩
    unfold zq
    rw [List.find?_isSome]
    have he1 : x.origin = e.origin ∧ x.seq = e.seq := by unfold idE at he; exact ⟨congrArg Prod.fst he, congrArg Prod.snd he⟩
    exact ⟨x, hx, by simpa using he1⟩
theorem UN (hi : (B.map idE).Nodup) (hn : ∀ x ∈ B, zA L x = false) : (yy n L B).filter (fun x => !zA ((yn n L B).foldl (addL n) L) x) = yy n L B ∧ yn n ((yn n L B).foldl (addL n) L) (yy n L B) = [] ∧ yy n ((yn n L B).foldl (addL n) L) (yy n L B) = yy n L B := by
  obtain ⟨_, hp, hc⟩ := Yz (n := n) B.length (T := L) (B := B) rfl
  refine ⟨?_, ?_⟩
  · rw [List.filter_eq_self]
    intro e he
    cases hh : zA ((yn n L B).foldl (addL n) L) e with
    | false => rfl
    | true =>
      obtain ⟨x, hx, hxe⟩ := VX.1 hh
      rcases Vd hx with hx | hx
      · have h1 := hn e (hp.mem_iff.1 (List.mem_append_right _ he))
        rw [VX.2 ⟨x, hx, hxe⟩] at h1; cases h1
      · have h2 := (hp.map idE).nodup_iff.2 hi
        rw [List.map_append, List.nodup_append] at h2
        exact absurd hxe (h2.2.2 _ (List.mem_map_of_mem (f := idE) hx) _ (List.mem_map_of_mem (f := idE) he))
  · exact ZK (fun i hi' => hc _ (xb hi'))
theorem UT (hk : k ≤ l.length) : (yn n L ((zu (zK l k)).filter fun x => !zA L x)).length + (yy n L ((zu (zK l k)).filter fun x => !zA L x)).length + ((zK l k).filter (zA L)).length = (zK l k).length := by
  obtain ⟨_, hp, _⟩ := Yz (n := n) _ (T := L) (B := (zu (zK l k)).filter fun x => !zA L x) rfl
  have h1 := hp.length_eq
  rw [List.length_append] at h1
  have h2 := Wo (p := zA L) (B := zu (zK l k))
  have h3 := ((sortE_perm (l := zK l k)).filter (zA L)).length_eq
  rw [yD] at h2
  omega
end
end Go.Proofs.Ytmiihhbeclhaoaa
end

section
/- Steps of the proofs of this seat: part E3. -/
set_option maxRecDepth 8000
set_option maxHeartbeats 4000000
namespace Go.Proofs.Ytmiihhbeclhaoaa
open Go.Proofs Go.RowKit

theorem WX {n : Nat} {O L : List Ev} {k : Nat} : ((O.take k).foldl (addL n) L).length ≤ L.length + O.length := by
  have h1 := Zo (n := n) (l := O.take k) (L := L)
  rw [List.length_take] at h1
  omega
theorem WN {G : Nat → Prop} {W w : World} {Rs : List HP} {n : Int} (hn : InR n) {vl : Value} {l : List Ev} (hl : RdS W G vl l) {there : Int} (hthere : InR there) (hS0 : Sep G W Rs w) : Ret Try.prog 3 [.int .i64 (n), vl, .int .i64 (there)] w (fun r w' => r = (.bool true : Value) ∧ Sep G W Rs w') := by
 have hls : _ * 96 ≤ _ := hl.small
 refine zp (args := [.int .i64 (n), vl, .int .i64 (there)]) Try.func3 rfl rfl ?_
 refine zc ?_
 refine za (by kernel_rfl) (fun _ => ?_)
 refine st (zd (v := .bool false) rfl ?_)
 refine ze ?_
 refine zc ?_
 refine zc ?_
 refine za (by kernel_rfl) (fun _ => ?_)
 refine st (zb (v := vl) rfl ?_)
 refine st (zj (f := 8) (vals := [vl]) (cap := []) rfl rfl Try.call8 (Vf (l := l) (vl := vl) hl hS0) ?_)
 rintro _ w3 ⟨b1, rfl, hb2, hS4⟩
 refine ze ?_
 cases hc5 : b1
 ·skip
  have hc5r := hc5
  obtain ⟨hf9, _⟩ := hb2 hc5r
  refine zi rfl ?_
  refine zo ?_
  refine zc ?_
  refine za (by kernel_rfl) (fun _ => ?_)
  refine st (zb (v := .int .i64 (n)) rfl ?_)
  refine st (zj (f := 10) (vals := [.int .i64 (n), .int .i64 (64)]) (cap := []) rfl rfl Try.call10 (Zp (x := n) (n := 64) hn (by first | omega | (refine ⟨?_, ?_⟩ <;> omega)) hS4) ?_)
  rintro _ w9 ⟨q6, rfl, hq7, hqe8, hS10⟩
  have hr11 : InR ((1 + q6 : Nat) : Int) := by first | omega | (simp only [lens]; omega)
  refine st (zB (r := ((1 + q6 : Nat) : Int)) (k := .i64) (a := 1) (b := ((q6 : Nat) : Int)) rfl rfl (by rw [show (1 + ((q6 : Nat) : Int) : Int) = ((1 + q6 : Nat) : Int) by first | omega | (simp only [lens]; omega)]; exact zy hr11) ?_)
  refine st (zd (v := .int .i64 ((1 + q6 : Nat) : Int)) rfl ?_)
  refine ze ?_
  refine zc ?_
  refine za (by kernel_rfl) (fun _ => ?_)
  refine st (zb (v := .int .i64 (there)) rfl ?_)
  refine st (zb (v := vl) rfl ?_)
  refine st (zJ (n := l.length) Try.underlying22 rfl hl.sl ?_)
  have hr12 : InR ((l.length + 1 : Nat) : Int) := by first | omega | (simp only [lens]; omega)
  refine st (zB (r := ((l.length + 1 : Nat) : Int)) (k := .i64) (a := ((l.length : Nat) : Int)) (b := 1) rfl rfl (by rw [show (((l.length : Nat) : Int) + 1 : Int) = ((l.length + 1 : Nat) : Int) by first | omega | (simp only [lens]; omega)]; exact zy hr12) ?_)
  refine st (zj (f := 10) (vals := [.int .i64 (there), .int .i64 ((l.length + 1 : Nat) : Int)]) (cap := []) rfl rfl Try.call10 (Zp (x := there) (n := l.length + 1) hthere (by first | omega | (refine ⟨?_, ?_⟩ <;> omega)) hS10) ?_)
  rintro _ w16 ⟨q13, rfl, hq14, hqe15, hS17⟩
  refine st (zd (v := .int .i64 ((q13 : Nat) : Int)) rfl ?_)
  refine ze ?_
  refine zc ?_
  refine za (by kernel_rfl) (fun _ => ?_)
  refine st (zb (v := .int .i64 ((1 + q6 : Nat) : Int)) rfl ?_)
  refine st (zj (f := 11) (vals := [.int .i64 ((1 + q6 : Nat) : Int)]) (cap := []) rfl rfl Try.call11 (Zg (n := 1 + q6) (by first | omega | (refine ⟨?_, ?_⟩ <;> omega)) hS17) ?_)
  rintro _ w19 ⟨b18, rfl, hS20⟩
  refine st (zd (v := .pointer (some ⟨b18, 0, none⟩)) rfl ?_)
  refine ze ?_
  refine zc ?_
  refine za (by kernel_rfl) (fun _ => ?_)
  refine st (zj (f := 12) (vals := [.int .i64 (256)]) (cap := []) rfl rfl Try.call12 (ZC (x := 256) (by decide) hS20) ?_)
  rintro _ w22 ⟨b21, rfl, hS23⟩
  refine st (zd (v := .pointer (some ⟨b21, 0, none⟩)) rfl ?_)
  refine ze ?_
  refine zc ?_
  refine zc ?_
  refine zW (by kernel_rfl) ?_
  refine st (zb (v := .pointer (some ⟨b18, 0, none⟩)) rfl ?_)
  refine st (yR (b := b18) (o := 0) Try.underlying26 rfl ?_)
  refine st (zb (v := .bool false) rfl ?_)
  refine sty rfl rfl (zb (v := .pointer (some ⟨b21, 0, none⟩)) rfl ?_)
  refine sty rfl rfl (yR (b := b21) (o := 0) Try.underlying28 rfl ?_)
  refine st (yo (v := .bool false) rfl rfl ?_)
  refine ze ?_
  refine zi rfl ?_
  refine zo ?_
  refine zc ?_
  refine zc ?_
  refine za (by kernel_rfl) (fun _ => ?_)
  refine st (zd (v := .int .i64 (0)) rfl ?_)
  refine ze ?_
  refine zt ?_
  have hqt9 : q13 ≤ l.length := by omega
  refine zP (fun mq σ wq => ∃ (k : Nat) (ρ : Env), mq = q13 - k ∧ σ = zQ ρ [(0, .int .i64 ((1 + q6 : Nat) : Int)), (1, vl), (2, .int .i64 ((q13 : Nat) : Int)), (7, .pointer (some ⟨b18, 0, none⟩)), (8, .pointer (some ⟨b21, 0, none⟩)), (9, .int .i64 ((k : Nat) : Int))] ∧ (k ≤ q13) ∧ Sep G W ((BufO b21 (max 0 (min 256 256)) ([] : List Ev)) :: (SetO b18 (1 + q6) (yX (1 + q6) (l.take k))) :: Rs) wq) ⟨0, _, rfl, zh ⟨rfl, rfl, rfl, rfl, rfl, rfl, trivial⟩, Nat.zero_le _, hS23⟩ ?_
  rintro m25 σ26 w24 ⟨k, ρl1, rfl, rfl, hkk, hS27⟩
  refine zc ?_
  refine zc ?_
  refine za (by kernel_rfl) (fun _ => ?_)
  refine st (zb (v := .int .i64 ((k : Nat) : Int)) rfl ?_)
  refine st (zb (v := .int .i64 ((q13 : Nat) : Int)) rfl ?_)
  refine st (zH (k := .i64) (a := ((k : Nat) : Int)) (b := ((q13 : Nat) : Int)) rfl rfl ?_)
  refine ze ?_
  cases hc28 : decide (((k : Nat) : Int) < ((q13 : Nat) : Int))
  ·skip
   have hc28r := hc28
   have hc28 := of_decide_eq_false hc28
   refine zi rfl ?_
   refine zO ?_
   refine zF ?_
   refine zc ?_
   refine za (by kernel_rfl) (fun _ => ?_)
   refine st (zd (v := .int .i64 (0)) rfl ?_)
   refine ze ?_
   refine zc ?_
   refine zc ?_
   refine za (by kernel_rfl) (fun _ => ?_)
   refine st (zd (v := .int .i64 (0)) rfl ?_)
   refine ze ?_
   refine zt ?_
   refine zP (fun mq σ wq => ∃ (k : Nat) (L9 : List Ev) (ρ : Env), mq = l.length - k ∧ σ = zQ ρ [(1, vl), (7, .pointer (some ⟨b18, 0, none⟩)), (8, .pointer (some ⟨b21, 0, none⟩)), (10, .int .i64 (((zK l k).length : Nat) : Int)), (11, .int .i64 ((k : Nat) : Int))] ∧ (k ≤ l.length) ∧ (Good (1 + q6) L9) ∧ (L9.length ≤ 60) ∧ Sep G W ((BufO b21 (max 0 (min 256 256)) (zu (zK l k))) :: (SetO b18 (1 + q6) L9) :: Rs) wq) ⟨0, (yX (1 + q6) (l.take k)), _, rfl, zh ⟨rfl, rfl, rfl, rfl, rfl, trivial⟩, Nat.zero_le _, laidL_good, (Nat.le_trans xB (by omega)), hS27⟩ ?_
   rintro m30 σ31 w29 ⟨k, L9, ρl2, rfl, rfl, hkk, hG9, hL9, hS32⟩
   have hown9 := Zs (l := l) (k := k)
   refine zc ?_
   refine zc ?_
   refine za (by kernel_rfl) (fun _ => ?_)
   refine st (zb (v := .int .i64 ((k : Nat) : Int)) rfl ?_)
   refine st (zb (v := vl) rfl ?_)
   refine st (zJ (n := l.length) Try.underlying22 rfl hl.sl ?_)
   refine st (zH (k := .i64) (a := ((k : Nat) : Int)) (b := ((l.length : Nat) : Int)) rfl rfl ?_)
   refine ze ?_
   cases hc33 : decide (((k : Nat) : Int) < ((l.length : Nat) : Int))
   ·skip
    have hc33r := hc33
    have hc33 := of_decide_eq_false hc33
    refine zi rfl ?_
    refine zO ?_
    refine zF ?_
    refine zc ?_
    obtain rfl : k = l.length := by omega
    refine za (by kernel_rfl) (fun _ => ?_)
    refine st (zd (v := .int .i64 (0)) rfl ?_)
    refine ze ?_
    refine zc ?_
    refine zc ?_
    refine za (by kernel_rfl) (fun _ => ?_)
    refine st (zd (v := .int .i64 (0)) rfl ?_)
    refine ze ?_
    refine zt ?_
    refine zP (fun mq σ wq => ∃ (k : Nat) (ρ : Env), mq = l.length - k ∧ σ = zQ ρ [(1, vl), (7, .pointer (some ⟨b18, 0, none⟩)), (8, .pointer (some ⟨b21, 0, none⟩)), (10, .int .i64 (((zK l l.length).length : Nat) : Int)), (12, .int .i64 ((((zK l k).filter (zA L9)).length : Nat) : Int)), (13, .int .i64 ((k : Nat) : Int))] ∧ (k ≤ l.length) ∧ Sep G W ((BufO b21 (max 0 (min 256 256)) (zu (zK l l.length))) :: (SetO b18 (1 + q6) L9) :: Rs) wq) ⟨0, _, rfl, zh ⟨rfl, rfl, rfl, rfl, rfl, rfl, trivial⟩, Nat.zero_le _, hS32⟩ ?_
    rintro m35 σ36 w34 ⟨k, ρl3, rfl, rfl, hkk, hS37⟩
    have hown9 := Zs (l := l) (k := k)
    have hofl9 := List.length_filter_le (zA L9) (zK l k)
    refine zc ?_
    refine zc ?_
    refine za (by kernel_rfl) (fun _ => ?_)
    refine st (zb (v := .int .i64 ((k : Nat) : Int)) rfl ?_)
    refine st (zb (v := vl) rfl ?_)
    refine st (zJ (n := l.length) Try.underlying22 rfl hl.sl ?_)
    refine st (zH (k := .i64) (a := ((k : Nat) : Int)) (b := ((l.length : Nat) : Int)) rfl rfl ?_)
    refine ze ?_
    cases hc38 : decide (((k : Nat) : Int) < ((l.length : Nat) : Int))
    ·skip
     have hc38r := hc38
     have hc38 := of_decide_eq_false hc38
     refine zi rfl ?_
     refine zO ?_
     refine zF ?_
     refine zc ?_
     obtain rfl : k = l.length := by omega
     have hown9 := Zs (l := l) (k := l.length)
     have hsl9 : (zu (zK l l.length)).length ≤ 60 := by rw [yD]; omega
     have hct9 := UT (n := (1 + q6)) (L := L9) (l := l) (k := l.length) (Nat.le_refl _)
     obtain ⟨hch9, hpm9, _⟩ := Yz (n := (1 + q6)) _ (T := L9) (B := ((zu (zK l l.length)).filter (fun x => !zA L9 x))) rfl
     obtain ⟨hra9, hrb9, hrc9⟩ := UN (n := (1 + q6)) (L := L9) (B := ((zu (zK l l.length)).filter (fun x => !zA L9 x))) (List.Nodup.sublist (List.filter_sublist.map idE) ((sortE_perm.map idE).nodup_iff.2 (YD (Nat.le_refl _)))) (fun x hx => by have h9 := (List.mem_filter.1 hx).2; simpa using h9)
     refine za (by kernel_rfl) (fun _ => ?_)
     refine st (zb (v := .pointer (some ⟨b21, 0, none⟩)) rfl ?_)
     refine st (zb (v := .pointer (some ⟨b18, 0, none⟩)) rfl ?_)
     have hS39 := hS37.mv1
     obtain ⟨G40, hA42, hB43, hS44, hk45⟩ := hS39.lend
     obtain ⟨vv46, m47, R48, hb49, hv50, hr51⟩ := SetO.sh hA42
     have hsm52 : (zz (1 + q6) L9).length * 8 ≤ 140737488355328 := hv50.small
     refine st (zj (f := 17) (vals := [.pointer (some ⟨b21, 0, none⟩), .pointer (some ⟨b18, 0, none⟩)]) (cap := []) rfl rfl Try.call17 (xH  hA42 hS44 ((by decide)) (by first | exact hG9 | exact xt hG9) (by omega) (by omega)) ?_)
     rintro v53 w54 ⟨_, rfl, hS55⟩
     have hr56 := hS55.row (i := 0) rfl
     have hr56s : _ * 96 ≤ _ := hr56.2
     have hS57 := hk45 _ _ hS55
     refine st (zd (v := v53) rfl ?_)
     refine ze ?_
     refine zc ?_
     refine zc ?_
     refine za (by kernel_rfl) (fun _ => ?_)
     refine st (zb (v := v53) rfl ?_)
     refine st (zJ (n := (yn (1 + q6) L9 ((zu (zK l l.length)).filter (fun x => !zA L9 x))).length) Try.underlying22 rfl hr56.1 ?_)
     refine st (zb (v := .pointer (some ⟨b21, 0, none⟩)) rfl ?_)
     have hS58 := hS57.mv2
     obtain ⟨G59, hA61, hB62, hS63, hk64⟩ := hS58.lend
     obtain ⟨vl65, hb66, hl67⟩ := BufO.sh hA61
     have hsm68 : (yy (1 + q6) L9 ((zu (zK l l.length)).filter (fun x => !zA L9 x))).length * 96 ≤ 140737488355328 := hl67.small
     refine st (zj (f := 18) (vals := [.pointer (some ⟨b21, 0, none⟩)]) (cap := []) rfl rfl Try.call18 (xL  hA61 hS63) ?_)
     rintro _ w69 ⟨rfl, hS70⟩
     have hS71 := hk64 _ _ hS70
     have hr72 : InR (((yn (1 + q6) L9 ((zu (zK l l.length)).filter (fun x => !zA L9 x))).length + ((yy (1 + q6) L9 ((zu (zK l l.length)).filter (fun x => !zA L9 x))).length) : Nat) : Int) := by first | omega | (simp only [lens]; omega)
     refine st (zB (r := (((yn (1 + q6) L9 ((zu (zK l l.length)).filter (fun x => !zA L9 x))).length + ((yy (1 + q6) L9 ((zu (zK l l.length)).filter (fun x => !zA L9 x))).length) : Nat) : Int)) (k := .i64) (a := (((yn (1 + q6) L9 ((zu (zK l l.length)).filter (fun x => !zA L9 x))).length : Nat) : Int)) (b := (((yy (1 + q6) L9 ((zu (zK l l.length)).filter (fun x => !zA L9 x))).length : Nat) : Int)) rfl rfl (by rw [show ((((yn (1 + q6) L9 ((zu (zK l l.length)).filter (fun x => !zA L9 x))).length : Nat) : Int) + (((yy (1 + q6) L9 ((zu (zK l l.length)).filter (fun x => !zA L9 x))).length : Nat) : Int) : Int) = (((yn (1 + q6) L9 ((zu (zK l l.length)).filter (fun x => !zA L9 x))).length + ((yy (1 + q6) L9 ((zu (zK l l.length)).filter (fun x => !zA L9 x))).length) : Nat) : Int) by first | omega | (simp only [lens]; omega)]; exact zy hr72) ?_)
     refine st (zb (v := .int .i64 ((((zK l l.length).filter (zA L9)).length : Nat) : Int)) rfl ?_)
     have hr73 : InR (((yn (1 + q6) L9 ((zu (zK l l.length)).filter (fun x => !zA L9 x))).length + ((yy (1 + q6) L9 ((zu (zK l l.length)).filter (fun x => !zA L9 x))).length) + (((zK l l.length).filter (zA L9)).length) : Nat) : Int) := by first | omega | (simp only [lens]; omega)
     refine st (zB (r := (((yn (1 + q6) L9 ((zu (zK l l.length)).filter (fun x => !zA L9 x))).length + ((yy (1 + q6) L9 ((zu (zK l l.length)).filter (fun x => !zA L9 x))).length) + (((zK l l.length).filter (zA L9)).length) : Nat) : Int)) (k := .i64) (a := (((yn (1 + q6) L9 ((zu (zK l l.length)).filter (fun x => !zA L9 x))).length + ((yy (1 + q6) L9 ((zu (zK l l.length)).filter (fun x => !zA L9 x))).length) : Nat) : Int)) (b := ((((zK l l.length).filter (zA L9)).length : Nat) : Int)) rfl rfl (by rw [show ((((yn (1 + q6) L9 ((zu (zK l l.length)).filter (fun x => !zA L9 x))).length + ((yy (1 + q6) L9 ((zu (zK l l.length)).filter (fun x => !zA L9 x))).length) : Nat) : Int) + ((((zK l l.length).filter (zA L9)).length : Nat) : Int) : Int) = (((yn (1 + q6) L9 ((zu (zK l l.length)).filter (fun x => !zA L9 x))).length + ((yy (1 + q6) L9 ((zu (zK l l.length)).filter (fun x => !zA L9 x))).length) + (((zK l l.length).filter (zA L9)).length) : Nat) : Int) by first | omega | (simp only [lens]; omega)]; exact zy hr73) ?_)
     refine st (zb (v := .int .i64 (((zK l l.length).length : Nat) : Int)) rfl ?_)
     refine st (yH (k := .i64) (a := (((yn (1 + q6) L9 ((zu (zK l l.length)).filter (fun x => !zA L9 x))).length + ((yy (1 + q6) L9 ((zu (zK l l.length)).filter (fun x => !zA L9 x))).length) + (((zK l l.length).filter (zA L9)).length) : Nat) : Int)) (b := (((zK l l.length).length : Nat) : Int)) rfl rfl ?_)
     have hkn74 : (!decide ((((yn (1 + q6) L9 ((zu (zK l l.length)).filter (fun x => !zA L9 x))).length + ((yy (1 + q6) L9 ((zu (zK l l.length)).filter (fun x => !zA L9 x))).length) + (((zK l l.length).filter (zA L9)).length) : Nat) : Int) = (((zK l l.length).length : Nat) : Int))) = false := (by rw [Bool.not_eq_false', decide_eq_true_eq]; omega)
     rw [hkn74]
     refine ze ?_
     refine zi rfl ?_
     refine zo ?_
     refine zc ?_
     refine zc ?_
     obtain ⟨O9, hO9⟩ : ∃ O9, yn (1 + q6) L9 ((zu (zK l l.length)).filter (fun x => !zA L9 x)) = O9 := ⟨_, rfl⟩
     obtain ⟨B8, hB8⟩ : ∃ B8, yy (1 + q6) L9 ((zu (zK l l.length)).filter (fun x => !zA L9 x)) = B8 := ⟨_, rfl⟩
     rw [hO9] at hct9 hch9 hpm9 hra9 hrb9 hrc9
     rw [hB8] at hct9 hpm9 hra9 hrb9 hrc9
     rw [hO9] at hS71
     have hS75 : Sep G W ((BufO b21 (max 0 (min 256 256)) (yy (1 + q6) L9 ((zu (zK l l.length)).filter (fun x => !zA L9 x)))) :: (SetO b18 (1 + q6) L9) :: (RowE (α := Ev) own 36 v53 O9) :: Rs) w69 := hS71
     have hr76 := hS75.row (i := 2) rfl
     have hr76s : _ * 96 ≤ _ := hr76.2
     rw [hB8] at hS75
     have hS77 : Sep G W ((BufO b21 (max 0 (min 256 256)) B8) :: (SetO b18 (1 + q6) L9) :: (RowE (α := Ev) own 36 v53 O9) :: Rs) w69 := hS75
     refine za (by kernel_rfl) (fun _ => ?_)
     refine st (zd (v := .int .i64 (0)) rfl ?_)
     refine ze ?_
     refine zt ?_
     have hS78 := hS77.mv2
     obtain ⟨G79, hA81, hB82, hS83, hk84⟩ := hS78.lend
     have hrd85 := RowE.rd hA81
     have hrd85s : _ * 96 ≤ _ := hrd85.small
     refine zP (fun mq σ wq => ∃ (k : Nat) (ρ : Env), mq = O9.length - k ∧ σ = zQ ρ [(7, .pointer (some ⟨b18, 0, none⟩)), (8, .pointer (some ⟨b21, 0, none⟩)), (16, v53), (17, .int .i64 ((k : Nat) : Int))] ∧ (k ≤ O9.length) ∧ Sep G79 w69 ((BufO b21 (max 0 (min 256 256)) B8) :: (SetO b18 (1 + q6) ((O9.take k).foldl (addL (1 + q6)) L9)) :: Rs) wq) ⟨0, _, rfl, zh ⟨rfl, rfl, rfl, rfl, trivial⟩, Nat.zero_le _, hS83⟩ ?_
     rintro m87 σ88 w86 ⟨k, ρl4, rfl, rfl, hkk, hS89⟩
     refine zc ?_
     refine zc ?_
     refine za (by kernel_rfl) (fun _ => ?_)
     refine st (zb (v := .int .i64 ((k : Nat) : Int)) rfl ?_)
     refine st (zb (v := v53) rfl ?_)
     refine st (zJ (n := O9.length) Try.underlying22 rfl hrd85.sl ?_)
     refine st (zH (k := .i64) (a := ((k : Nat) : Int)) (b := ((O9.length : Nat) : Int)) rfl rfl ?_)
     refine ze ?_
     cases hc90 : decide (((k : Nat) : Int) < ((O9.length : Nat) : Int))
     ·skip
      have hc90r := hc90
      have hc90 := of_decide_eq_false hc90
      refine zi rfl ?_
      refine zO ?_
      refine zF ?_
      refine zc ?_
      have hS91 := hk84 _ _ hS89
      obtain rfl : k = O9.length := by omega
      have htl9 : O9.take O9.length = O9 := List.take_length
      rw [htl9] at hS91
      have hS92 : Sep G W ((RowE (α := Ev) own 36 v53 O9) :: (BufO b21 (max 0 (min 256 256)) B8) :: (SetO b18 (1 + q6) (O9.foldl (addL (1 + q6)) L9)) :: Rs) w86 := hS91
      have hfl9 := Zo (n := (1 + q6)) (l := O9) (L := L9)
      have hz9 : yn (1 + q6) (O9.foldl (addL (1 + q6)) L9) (B8.filter (fun x => !zA (O9.foldl (addL (1 + q6)) L9) x)) = [] := by rw [hra9]; exact hrb9
      have hy9 : yy (1 + q6) (O9.foldl (addL (1 + q6)) L9) (B8.filter (fun x => !zA (O9.foldl (addL (1 + q6)) L9) x)) = B8 := by rw [hra9]; exact hrc9
      refine za (by kernel_rfl) (fun _ => ?_)
      refine st (zb (v := .pointer (some ⟨b21, 0, none⟩)) rfl ?_)
      have hS93 := hS92.mv1
      obtain ⟨G94, hA96, hB97, hS98, hk99⟩ := hS93.lend
      obtain ⟨vl100, hb101, hl102⟩ := BufO.sh hA96
      have hsm103 : B8.length * 96 ≤ 140737488355328 := hl102.small
      refine st (zj (f := 18) (vals := [.pointer (some ⟨b21, 0, none⟩)]) (cap := []) rfl rfl Try.call18 (xL  hA96 hS98) ?_)
      rintro _ w104 ⟨rfl, hS105⟩
      have hS106 := hk99 _ _ hS105
      refine st (zd (v := .int .i64 ((B8.length : Nat) : Int)) rfl ?_)
      refine ze ?_
      refine zc ?_
      refine zW (by kernel_rfl) ?_
      refine st (zb (v := .pointer (some ⟨b21, 0, none⟩)) rfl ?_)
      refine st (zb (v := .pointer (some ⟨b18, 0, none⟩)) rfl ?_)
      have hS107 := hS106.mv2
      obtain ⟨G108, hA110, hB111, hS112, hk113⟩ := hS107.lend
      obtain ⟨vv114, m115, R116, hb117, hv118, hr119⟩ := SetO.sh hA110
      have hsm120 : (zz (1 + q6) (O9.foldl (addL (1 + q6)) L9)).length * 8 ≤ 140737488355328 := hv118.small
      refine st (zj (f := 17) (vals := [.pointer (some ⟨b21, 0, none⟩), .pointer (some ⟨b18, 0, none⟩)]) (cap := []) rfl rfl Try.call17 (xH  hA110 hS112 ((by decide)) (by first | exact hG9 | exact xt hG9) (by omega) (by omega)) ?_)
      rintro v121 w122 ⟨_, rfl, hS123⟩
      have hr124 := hS123.row (i := 0) rfl
      have hr124s : _ * 96 ≤ _ := hr124.2
      have hS125 := hk113 _ _ hS123
      rw [hz9] at hS125
      have hS126 : Sep G W ((SetO b18 (1 + q6) (O9.foldl (addL (1 + q6)) L9)) :: (RowE (α := Ev) own 36 v121 ([] : List Ev)) :: (BufO b21 (max 0 (min 256 256)) (yy (1 + q6) (O9.foldl (addL (1 + q6)) L9) (B8.filter (fun x => !zA (O9.foldl (addL (1 + q6)) L9) x)))) :: (RowE (α := Ev) own 36 v53 O9) :: Rs) w122 := hS125
      have hr127 := hS126.row (i := 1) rfl
      have hr127s : _ * 96 ≤ _ := hr127.2
      rw [hy9] at hS126
      have hS128 : Sep G W ((SetO b18 (1 + q6) (O9.foldl (addL (1 + q6)) L9)) :: (RowE (α := Ev) own 36 v121 ([] : List Ev)) :: (BufO b21 (max 0 (min 256 256)) B8) :: (RowE (α := Ev) own 36 v53 O9) :: Rs) w122 := hS126
      refine st (zJ (n := ([] : List Ev).length) Try.underlying22 rfl hr127.1 ?_)
      refine st (yq (k := .i64) (a := ((([] : List Ev).length : Nat) : Int)) (b := 0) rfl rfl ?_)
      have hkn129 : (decide (((([] : List Ev).length : Nat) : Int) = 0)) = true := (by decide)
      rw [hkn129]
      refine st (zb (v := .bool true) rfl ?_)
      refine sty rfl rfl (zb (v := .pointer (some ⟨b21, 0, none⟩)) rfl ?_)
      have hS130 := hS128.mv2
      obtain ⟨G131, hA133, hB134, hS135, hk136⟩ := hS130.lend
      obtain ⟨vl137, hb138, hl139⟩ := BufO.sh hA133
      have hsm140 : B8.length * 96 ≤ 140737488355328 := hl139.small
      refine sty rfl rfl (zj (f := 18) (vals := [.pointer (some ⟨b21, 0, none⟩)]) (cap := []) rfl rfl Try.call18 (xL  hA133 hS135) ?_)
      rintro _ w141 ⟨rfl, hS142⟩
      have hS143 := hk136 _ _ hS142
      refine sty rfl rfl (zb (v := .int .i64 ((B8.length : Nat) : Int)) rfl ?_)
      refine sty rfl rfl (yq (k := .i64) (a := ((B8.length : Nat) : Int)) (b := ((B8.length : Nat) : Int)) rfl rfl ?_)
      have hkn144 : (decide (((B8.length : Nat) : Int) = ((B8.length : Nat) : Int))) = true := decide_eq_true rfl
      rw [hkn144]
      refine st (yw (v := .bool true) rfl rfl ?_)
      refine st (zb (v := .bool true) rfl ?_)
      refine sty rfl rfl (zj (f := 9) (vals := []) (cap := []) rfl rfl Try.call9 (xi  hS143) ?_)
      rintro _ w145 ⟨rfl, hS146⟩
      refine st (yw (v := .bool true) rfl rfl ?_)
      refine st (zd (v := .bool true) rfl ?_)
      refine ze ?_
      refine zw ?_
      refine zL Try.results3 (show _ = (.bool true : Value) from rfl) ?_
      have hS147 : Sep G W Rs w145 := hS146.sel 4 [] (Nat.le_add_left _ _) rfl rfl
      refine ⟨rfl, hS147⟩
     ·skip
      have hc90r := hc90
      have hc90 := of_decide_eq_true hc90
      refine zk rfl ?_
      refine zo ?_
      refine zc ?_
      refine zt ?_
      refine zc ?_
      refine za (by kernel_rfl) (fun _ => ?_)
      refine st (zb (v := .pointer (some ⟨b18, 0, none⟩)) rfl ?_)
      refine st (zb (v := v53) rfl ?_)
      refine st (zb (v := .int .i64 ((k : Nat) : Int)) rfl ?_)
      have hi148 : k < O9.length := (by first | omega | (simp only [lens]; omega))
      refine st (zl (k := 10) (i := k) Try.underlying22 Try.sizeOf36 rfl hrd85.sl rfl hi148 ?_)
      have hi150 : k < O9.length := (by first | omega | (simp only [lens]; omega))
      obtain ⟨hce149, hde149_0, hoke149⟩ := hrd85.ev hi150
      rw [← zm default hi150] at hce149 hde149_0 hoke149
      have hsm151 : ((O9.getD k default).deps).length * 8 ≤ 140737488355328 := hde149_0.small
      have hcw152 := hS89.cells hce149 (hrd85.foot (ne_of_lt hi150))
      refine st (zr (k := 10) Try.isAgg36 Try.sizeOf36 rfl rfl hcw152 ?_)
      have hS153 := hS89.mv1
      refine st (zj (f := 13) (vals := [.pointer (some ⟨b18, 0, none⟩), .agg ((O9.getD k default).cells (zT w69 (sb v53) (so v53 + k * 10 + 3))).toArray]) (cap := []) rfl rfl Try.call13 (Ye (e := (O9.getD k default)) hde149_0 hoke149 hS153 (by first | exact Nat.le_trans xB (by omega) | exact Nat.le_trans WX (by omega)) (by first | exact laidL_good.len | exact (xt hG9).len)) ?_)
      rintro _ w154 ⟨rfl, hS155⟩
      refine st (yH (k := .i64) (a := (zU (1 + q6) ((O9.take k).foldl (addL (1 + q6)) L9) (O9.getD k default))) (b := 0) rfl rfl ?_)
      have hkn156 : (!decide ((zU (1 + q6) ((O9.take k).foldl (addL (1 + q6)) L9) (O9.getD k default)) = 0)) = false := (by rw [WV hch9 (by omega)]; rfl)
      rw [hkn156]
      refine ze ?_
      refine zi rfl ?_
      refine zo ?_
      refine za (by kernel_rfl) (fun _ => ?_)
      refine st (zb (v := .int .i64 ((k : Nat) : Int)) rfl ?_)
      have hr157 : InR ((k + 1 : Nat) : Int) := by first | omega | (simp only [lens]; omega)
      refine st (zB (r := ((k + 1 : Nat) : Int)) (k := .i64) (a := ((k : Nat) : Int)) (b := 1) rfl rfl (by rw [show (((k : Nat) : Int) + 1 : Int) = ((k + 1 : Nat) : Int) by first | omega | (simp only [lens]; omega)]; exact zy hr157) ?_)
      refine st (zd (v := .int .i64 ((k + 1 : Nat) : Int)) rfl ?_)
      refine ze ?_
      have hS158 := hS155.mv1
      have hL159 : ((O9.take (k + 1)).foldl (addL (1 + q6)) L9) = (addL (1 + q6) ((O9.take k).foldl (addL (1 + q6)) L9) (O9.getD k default)) := (UM (by omega))
      rw [← hL159] at hS158
      exact ⟨_, by omega, k + 1, _, rfl, zh ⟨rfl, rfl, rfl, rfl, trivial⟩, by omega, hS158⟩
    ·skip
     have hc38r := hc38
     have hc38 := of_decide_eq_true hc38
     refine zk rfl ?_
     refine zo ?_
     refine zc ?_
     refine zt ?_
     refine zc ?_
     refine za (by kernel_rfl) (fun _ => ?_)
     refine st (zb (v := .pointer (some ⟨b18, 0, none⟩)) rfl ?_)
     refine st (zb (v := vl) rfl ?_)
     refine st (zb (v := .int .i64 ((k : Nat) : Int)) rfl ?_)
     have hi160 : k < l.length := (by first | omega | (simp only [lens]; omega))
     refine st (zl (k := 10) (i := k) Try.underlying22 Try.sizeOf36 rfl hl.sl rfl hi160 ?_)
     refine st (zS rfl ?_)
     have hi162 : k < l.length := (by first | omega | (simp only [lens]; omega))
     obtain ⟨hce161, hde161_0, hoke161⟩ := hl.ev hi162
     rw [← zm default hi162] at hce161 hde161_0 hoke161
     have hsm163 : ((l.getD k default).deps).length * 8 ≤ 140737488355328 := hde161_0.small
     have hcw164 := hS37.cells hce161 (hl.foot (ne_of_lt hi162))
     refine st (zr (k := 2) (cs := [.int .i64 ((l.getD k default).origin), .int .i64 ((l.getD k default).seq)]) Try.isAgg33 Try.sizeOf33 rfl rfl (CellsAt.sub hcw164 0 (cs2 := [.int .i64 ((l.getD k default).origin), .int .i64 ((l.getD k default).seq)]) rfl) ?_)
     have hS165 := hS37.mv1
     obtain ⟨G166, hA168, hB169, hS170, hk171⟩ := hS165.lend
     obtain ⟨vv172, m173, R174, hb175, hv176, hr177⟩ := SetO.sh hA168
     have hsm178 : (zz (1 + q6) L9).length * 8 ≤ 140737488355328 := hv176.small
     refine st (zj (f := 15) (vals := [.pointer (some ⟨b18, 0, none⟩), .agg #[.int .i64 ((l.getD k default).origin), .int .i64 ((l.getD k default).seq)]]) (cap := []) rfl rfl Try.call15 (Ja  hA168 hoke161.origin hoke161.seq hS170) ?_)
     rintro _ w181 ⟨v179, rfl, hgo180, hS182⟩
     have hr183 := hS182.row (i := 0) rfl
     have hr183s : _ * 8 ≤ _ := hr183.2
     have hS184 := hk171 _ _ hS182
     refine st (zb (v := .tuple #[.agg (((zq L9 (((l.getD k default).origin), ((l.getD k default).seq))).getD default).cells v179).toArray, .bool (zq L9 (((l.getD k default).origin), ((l.getD k default).seq))).isSome]) rfl ?_)
     refine st (zV (vs := [.agg (((zq L9 (((l.getD k default).origin), ((l.getD k default).seq))).getD default).cells v179).toArray, .bool ((zq L9 (((l.getD k default).origin), ((l.getD k default).seq))).isSome)]) (i := 0) (v := .agg (((zq L9 (((l.getD k default).origin), ((l.getD k default).seq))).getD default).cells v179).toArray) rfl rfl ?_)
     refine st (zV (vs := [.agg (((zq L9 (((l.getD k default).origin), ((l.getD k default).seq))).getD default).cells v179).toArray, .bool ((zq L9 (((l.getD k default).origin), ((l.getD k default).seq))).isSome)]) (i := 1) (v := .bool ((zq L9 (((l.getD k default).origin), ((l.getD k default).seq))).isSome)) rfl rfl ?_)
     refine st (ye Try.zeroValue36 ?_)
     intro w187 b186 hn185
     have hS188 := hS184.new hn185
     refine stn (zY (v := .agg (((zq L9 (((l.getD k default).origin), ((l.getD k default).seq))).getD default).cells v179).toArray) (c' := (((zq L9 (((l.getD k default).origin), ((l.getD k default).seq))).getD default).cells v179).toArray) Try.sizeOf36 rfl rfl (hS188.blk (i := 0) rfl) (yU ⟨rfl, rfl, rfl, hr183.1.one, rfl, rfl, rfl, rfl, rfl, rfl, trivial⟩) (Nat.le_of_ble_eq_true rfl) rfl ?_)
     intro w189 hp190
     have hS191 := hS188.pt0 hp190
     refine st (zd (v := .bool ((zq L9 (((l.getD k default).origin), ((l.getD k default).seq))).isSome)) rfl ?_)
     refine ze ?_
     refine zc ?_
     refine zW (by kernel_rfl) ?_
     refine st (zb (v := .bool ((zq L9 (((l.getD k default).origin), ((l.getD k default).seq))).isSome)) rfl ?_)
     refine st (zb (v := .bool ((zq L9 (((l.getD k default).origin), ((l.getD k default).seq))).isSome)) rfl ?_)
     refine stc (V := vl) rfl rfl (fun hb192 => ?_) ?_
     ·have hl193 := hb192
      exact zb (v := vl) rfl ⟨rfl, rfl⟩
     refine stc (V := .int .i64 ((k : Nat) : Int)) rfl rfl (fun hb194 => ?_) ?_
     ·have hl195 := hb194
      exact zb (v := .int .i64 ((k : Nat) : Int)) rfl ⟨rfl, rfl⟩
     cases hg196 : (zq L9 (((l.getD k default).origin), ((l.getD k default).seq))).isSome
     ·skip
      have hg196r := hg196
      refine stx rfl rfl ?_
      refine stx rfl rfl ?_
      refine st (yo (v := .bool false) rfl rfl ?_)
      refine ze ?_
      refine zi rfl ?_
      refine zo ?_
      refine za (by kernel_rfl) (fun _ => ?_)
      refine st (zb (v := .int .i64 ((k : Nat) : Int)) rfl ?_)
      have hr197 : InR ((k + 1 : Nat) : Int) := by first | omega | (simp only [lens]; omega)
      refine st (zB (r := ((k + 1 : Nat) : Int)) (k := .i64) (a := ((k : Nat) : Int)) (b := 1) rfl rfl (by rw [show (((k : Nat) : Int) + 1 : Int) = ((k + 1 : Nat) : Int) by first | omega | (simp only [lens]; omega)]; exact zy hr197) ?_)
      refine st (zd (v := .int .i64 ((k + 1 : Nat) : Int)) rfl ?_)
      refine ze ?_
      have hS198 : Sep G W ((BufO b21 (max 0 (min 256 256)) (zu (zK l l.length))) :: (SetO b18 (1 + q6) L9) :: Rs) w189 := hS191.sel 4 [3, 1] (Nat.le_add_left _ _) rfl rfl
      have hol9 := Ui (l := l) (k := k) (L := L9) (by first | exact .inl hg196 | exact .inr (by simpa using hg196r))
      exact ⟨_, by omega, k + 1, _, rfl, zh ⟨rfl, rfl, rfl, rfl, (show (.int .i64 ((((zK l k).filter (zA L9)).length : Nat) : Int) : Value) = (.int .i64 ((((zK l (k + 1)).filter (zA L9)).length : Nat) : Int) : Value) from congrArg (Value.int .i64) (by omega)), rfl, trivial⟩, by omega, hS198⟩
     ·skip
      have hg196r := hg196
      refine sty rfl rfl (zj (f := 16) (vals := [vl, .int .i64 ((k : Nat) : Int)]) (cap := []) rfl rfl Try.call16 (Va (l := l) (vl := vl) (i := k) hl (by first | omega | (refine ⟨?_, ?_⟩ <;> omega)) hS191) ?_)
      rintro _ w199 ⟨rfl, hS200⟩
      refine sty rfl rfl (yA (a := (xu l k)) rfl ?_)
      refine st (yw (v := .bool (!(xu l k))) rfl rfl ?_)
      refine ze ?_
      cases hc201 : !(xu l k)
      ·skip
       have hc201r := hc201
       try simp only [zx] at hc201
       refine zi rfl ?_
       refine zo ?_
       refine za (by kernel_rfl) (fun _ => ?_)
       refine st (zb (v := .int .i64 ((k : Nat) : Int)) rfl ?_)
       have hr202 : InR ((k + 1 : Nat) : Int) := by first | omega | (simp only [lens]; omega)
       refine st (zB (r := ((k + 1 : Nat) : Int)) (k := .i64) (a := ((k : Nat) : Int)) (b := 1) rfl rfl (by rw [show (((k : Nat) : Int) + 1 : Int) = ((k + 1 : Nat) : Int) by first | omega | (simp only [lens]; omega)]; exact zy hr202) ?_)
       refine st (zd (v := .int .i64 ((k + 1 : Nat) : Int)) rfl ?_)
       refine ze ?_
       have hS203 : Sep G W ((BufO b21 (max 0 (min 256 256)) (zu (zK l l.length))) :: (SetO b18 (1 + q6) L9) :: Rs) w199 := hS200.sel 4 [3, 1] (Nat.le_add_left _ _) rfl rfl
       have hol9 := Ui (l := l) (k := k) (L := L9) (by first | exact .inl hc201 | exact .inr (by simpa using hc201r))
       exact ⟨_, by omega, k + 1, _, rfl, zh ⟨rfl, rfl, rfl, rfl, (show (.int .i64 ((((zK l k).filter (zA L9)).length : Nat) : Int) : Value) = (.int .i64 ((((zK l (k + 1)).filter (zA L9)).length : Nat) : Int) : Value) from congrArg (Value.int .i64) (by omega)), rfl, trivial⟩, by omega, hS203⟩
      ·skip
       have hc201r := hc201
       try simp only [zx] at hc201
       refine zk rfl ?_
       refine za (by kernel_rfl) (fun _ => ?_)
       refine st (zb (v := .int .i64 ((((zK l k).filter (zA L9)).length : Nat) : Int)) rfl ?_)
       have hr204 : InR ((((zK l k).filter (zA L9)).length + 1 : Nat) : Int) := by first | omega | (simp only [lens]; omega)
       refine st (zB (r := ((((zK l k).filter (zA L9)).length + 1 : Nat) : Int)) (k := .i64) (a := ((((zK l k).filter (zA L9)).length : Nat) : Int)) (b := 1) rfl rfl (by rw [show (((((zK l k).filter (zA L9)).length : Nat) : Int) + 1 : Int) = ((((zK l k).filter (zA L9)).length + 1 : Nat) : Int) by first | omega | (simp only [lens]; omega)]; exact zy hr204) ?_)
       refine st (zd (v := .int .i64 ((((zK l k).filter (zA L9)).length + 1 : Nat) : Int)) rfl ?_)
       refine ze ?_
       refine za (by kernel_rfl) (fun _ => ?_)
       refine st (zb (v := .int .i64 ((k : Nat) : Int)) rfl ?_)
       have hr205 : InR ((k + 1 : Nat) : Int) := by first | omega | (simp only [lens]; omega)
       refine st (zB (r := ((k + 1 : Nat) : Int)) (k := .i64) (a := ((k : Nat) : Int)) (b := 1) rfl rfl (by rw [show (((k : Nat) : Int) + 1 : Int) = ((k + 1 : Nat) : Int) by first | omega | (simp only [lens]; omega)]; exact zy hr205) ?_)
       refine st (zd (v := .int .i64 ((k + 1 : Nat) : Int)) rfl ?_)
       refine ze ?_
       have hS206 : Sep G W ((BufO b21 (max 0 (min 256 256)) (zu (zK l l.length))) :: (SetO b18 (1 + q6) L9) :: Rs) w199 := hS200.sel 4 [3, 1] (Nat.le_add_left _ _) rfl rfl
       have hol9 := QB (l := l) (k := k) (L := L9) hg196 (by simpa using hc201r)
       exact ⟨_, by omega, k + 1, _, rfl, zh ⟨rfl, rfl, rfl, rfl, (show (.int .i64 ((((zK l k).filter (zA L9)).length + 1 : Nat) : Int) : Value) = (.int .i64 ((((zK l (k + 1)).filter (zA L9)).length : Nat) : Int) : Value) from congrArg (Value.int .i64) (by omega)), rfl, trivial⟩, by omega, hS206⟩
   ·skip
    have hc33r := hc33
    have hc33 := of_decide_eq_true hc33
    refine zk rfl ?_
    refine zo ?_
    refine zc ?_
    refine zt ?_
    refine zc ?_
    obtain ⟨hkb9, hkl9⟩ := UK (m := (max 0 (min 256 256))) (l := l) (k := k) (by omega) (by omega)
    refine za (by kernel_rfl) (fun _ => ?_)
    refine st (zb (v := .pointer (some ⟨b21, 0, none⟩)) rfl ?_)
    refine st (zb (v := vl) rfl ?_)
    refine st (zb (v := .int .i64 ((k : Nat) : Int)) rfl ?_)
    have hi207 : k < l.length := (by first | omega | (simp only [lens]; omega))
    refine st (zl (k := 10) (i := k) Try.underlying22 Try.sizeOf36 rfl hl.sl rfl hi207 ?_)
    have hi209 : k < l.length := (by first | omega | (simp only [lens]; omega))
    obtain ⟨hce208, hde208_0, hoke208⟩ := hl.ev hi209
    rw [← zm default hi209] at hce208 hde208_0 hoke208
    have hsm210 : ((l.getD k default).deps).length * 8 ≤ 140737488355328 := hde208_0.small
    have hcw211 := hS32.cells hce208 (hl.foot (ne_of_lt hi209))
    refine st (zr (k := 10) Try.isAgg36 Try.sizeOf36 rfl rfl hcw211 ?_)
    refine st (zj (f := 14) (vals := [.pointer (some ⟨b21, 0, none⟩), .agg ((l.getD k default).cells (zT W (sb vl) (so vl + k * 10 + 3))).toArray]) (cap := []) rfl rfl Try.call14 (xk (e := (l.getD k default)) hde208_0 hoke208 hS32 ((by decide)) ((yG (YD (by omega)))) ((by rw [yD]; omega))) ?_)
    rintro _ w212 ⟨rfl, hS213⟩
    refine ze ?_
    cases hc214 : (ya (max 0 (min 256 256)) (zu (zK l k)) (l.getD k default))
    ·skip
     have hc214r := hc214
     refine zi rfl ?_
     refine zo ?_
     refine za (by kernel_rfl) (fun _ => ?_)
     refine st (zb (v := .int .i64 ((k : Nat) : Int)) rfl ?_)
     have hr215 : InR ((k + 1 : Nat) : Int) := by first | omega | (simp only [lens]; omega)
     refine st (zB (r := ((k + 1 : Nat) : Int)) (k := .i64) (a := ((k : Nat) : Int)) (b := 1) rfl rfl (by rw [show (((k : Nat) : Int) + 1 : Int) = ((k + 1 : Nat) : Int) by first | omega | (simp only [lens]; omega)]; exact zy hr215) ?_)
     refine st (zd (v := .int .i64 ((k + 1 : Nat) : Int)) rfl ?_)
     refine ze ?_
     have hbf9 : xu l k = true := by have h9 := hc214r; rw [hkb9] at h9; simpa using h9
     have hol9 : (zK l (k + 1)).length = (zK l k).length := by rw [xX hbf9]
     have hL216 : (zu (zK l (k + 1))) = (yF (max 0 (min 256 256)) (zu (zK l k)) (l.getD k default)) := hkl9.symm
     rw [← hL216] at hS213
     exact ⟨_, by omega, k + 1, L9, _, rfl, zh ⟨rfl, rfl, rfl, (show (.int .i64 (((zK l k).length : Nat) : Int) : Value) = (.int .i64 (((zK l (k + 1)).length : Nat) : Int) : Value) from congrArg (Value.int .i64) (by omega)), rfl, trivial⟩, by omega, hG9, hL9, hS213⟩
    ·skip
     have hc214r := hc214
     refine zk rfl ?_
     refine za (by kernel_rfl) (fun _ => ?_)
     refine st (zb (v := .int .i64 (((zK l k).length : Nat) : Int)) rfl ?_)
     have hr217 : InR (((zK l k).length + 1 : Nat) : Int) := by first | omega | (simp only [lens]; omega)
     refine st (zB (r := (((zK l k).length + 1 : Nat) : Int)) (k := .i64) (a := (((zK l k).length : Nat) : Int)) (b := 1) rfl rfl (by rw [show ((((zK l k).length : Nat) : Int) + 1 : Int) = (((zK l k).length + 1 : Nat) : Int) by first | omega | (simp only [lens]; omega)]; exact zy hr217) ?_)
     refine st (zd (v := .int .i64 (((zK l k).length + 1 : Nat) : Int)) rfl ?_)
     refine ze ?_
     refine za (by kernel_rfl) (fun _ => ?_)
     refine st (zb (v := .int .i64 ((k : Nat) : Int)) rfl ?_)
     have hr218 : InR ((k + 1 : Nat) : Int) := by first | omega | (simp only [lens]; omega)
     refine st (zB (r := ((k + 1 : Nat) : Int)) (k := .i64) (a := ((k : Nat) : Int)) (b := 1) rfl rfl (by rw [show (((k : Nat) : Int) + 1 : Int) = ((k + 1 : Nat) : Int) by first | omega | (simp only [lens]; omega)]; exact zy hr218) ?_)
     refine st (zd (v := .int .i64 ((k + 1 : Nat) : Int)) rfl ?_)
     refine ze ?_
     have hbf9 : xu l k = false := by have h9 := hc214r; rw [hkb9] at h9; simpa using h9
     have hol9 : (zK l (k + 1)).length = (zK l k).length + 1 := by rw [Zf hbf9, List.length_append]; rfl
     have hL219 : (zu (zK l (k + 1))) = (yF (max 0 (min 256 256)) (zu (zK l k)) (l.getD k default)) := hkl9.symm
     rw [← hL219] at hS213
     exact ⟨_, by omega, k + 1, L9, _, rfl, zh ⟨rfl, rfl, rfl, (show (.int .i64 (((zK l k).length + 1 : Nat) : Int) : Value) = (.int .i64 (((zK l (k + 1)).length : Nat) : Int) : Value) from congrArg (Value.int .i64) (by omega)), rfl, trivial⟩, by omega, hG9, hL9, hS213⟩
  ·skip
   have hc28r := hc28
   have hc28 := of_decide_eq_true hc28
   refine zk rfl ?_
   refine zo ?_
   refine zc ?_
   refine zt ?_
   refine za (by kernel_rfl) (fun _ => ?_)
   refine st (zb (v := .pointer (some ⟨b18, 0, none⟩)) rfl ?_)
   refine st (zb (v := vl) rfl ?_)
   refine st (zb (v := .int .i64 ((k : Nat) : Int)) rfl ?_)
   have hi220 : k < l.length := (by first | omega | (simp only [lens]; omega))
   refine st (zl (k := 10) (i := k) Try.underlying22 Try.sizeOf36 rfl hl.sl rfl hi220 ?_)
   have hi222 : k < l.length := (by first | omega | (simp only [lens]; omega))
   obtain ⟨hce221, hde221_0, hoke221⟩ := hl.ev hi222
   rw [← zm default hi222] at hce221 hde221_0 hoke221
   have hsm223 : ((l.getD k default).deps).length * 8 ≤ 140737488355328 := hde221_0.small
   have hcw224 := hS27.cells hce221 (hl.foot (ne_of_lt hi222))
   refine st (zr (k := 10) Try.isAgg36 Try.sizeOf36 rfl rfl hcw224 ?_)
   have hS225 := hS27.mv1
   refine st (zj (f := 13) (vals := [.pointer (some ⟨b18, 0, none⟩), .agg ((l.getD k default).cells (zT W (sb vl) (so vl + k * 10 + 3))).toArray]) (cap := []) rfl rfl Try.call13 (Ye (e := (l.getD k default)) hde221_0 hoke221 hS225 (by first | exact Nat.le_trans xB (by omega) | exact Nat.le_trans WX (by omega)) (by first | exact laidL_good.len | exact (xt hG9).len)) ?_)
   rintro _ w226 ⟨rfl, hS227⟩
   refine ze ?_
   refine za (by kernel_rfl) (fun _ => ?_)
   refine st (zb (v := .int .i64 ((k : Nat) : Int)) rfl ?_)
   have hr228 : InR ((k + 1 : Nat) : Int) := by first | omega | (simp only [lens]; omega)
   refine st (zB (r := ((k + 1 : Nat) : Int)) (k := .i64) (a := ((k : Nat) : Int)) (b := 1) rfl rfl (by rw [show (((k : Nat) : Int) + 1 : Int) = ((k + 1 : Nat) : Int) by first | omega | (simp only [lens]; omega)]; exact zy hr228) ?_)
   refine st (zd (v := .int .i64 ((k + 1 : Nat) : Int)) rfl ?_)
   refine ze ?_
   have hS229 := hS227.mv1
   have hL230 : (yX (1 + q6) (l.take (k + 1))) = (addL (1 + q6) (yX (1 + q6) (l.take k)) (l.getD k default)) := (Yh (by omega)).symm
   rw [← hL230] at hS229
   exact ⟨_, by omega, k + 1, _, rfl, zh ⟨rfl, rfl, rfl, rfl, rfl, rfl, trivial⟩, by omega, hS229⟩
 ·skip
  have hc5r := hc5
  refine zk rfl ?_
  refine zc ?_
  refine za (by kernel_rfl) (fun _ => ?_)
  refine st (zj (f := 9) (vals := []) (cap := []) rfl rfl Try.call9 (xi  hS4) ?_)
  rintro _ w231 ⟨rfl, hS232⟩
  refine st (zd (v := .bool true) rfl ?_)
  refine ze ?_
  refine zw ?_
  refine zL Try.results3 (show _ = (.bool true : Value) from rfl) ?_
  refine ⟨rfl, hS232⟩

end Go.Proofs.Ytmiihhbeclhaoaa
end

section
/- Plain laws of chapter 25: in whatever order they come. -/
namespace Go.Proofs.Ytmiihhbeclhaoaa
open Go.Proofs Go.RowKit

def xz (W : List Ev) (f k : Nat) : List Ev := (List.range k).map fun j => W.getD ((W.length - 1 - j + f) % W.length) default
section
variable {W : List Ev} {e x : Ev} {f i j k : Nat} {m : Int}
theorem VR (h : (W.map idE).Nodup) (hi : i < W.length) (hj : j < W.length) (he : idE (W.getD i default) = idE (W.getD j default)) : i = j := by
  have h1 : W.Pairwise fun a b => idE a ≠ idE b := List.pairwise_map.1 h
  rw [zm _ hi, zm _ hj] at he
  rw [List.pairwise_iff_getElem] at h1
  rcases Nat.lt_trichotomy i j with h2 | h2 | h2
  · exact absurd he (h1 i j hi hj h2)
  · exact h2
  · exact absurd he.symm (h1 j i hj hi h2)
theorem Ku (hj : j < W.length) (hk : k < W.length) (h : (W.length - 1 - j + f) % W.length = (W.length - 1 - k + f) % W.length) : j = k := by
  rcases Nat.lt_trichotomy j k with h1 | h1 | h1
  · have h2 := Nat.sub_mod_eq_zero_of_mod_eq h
    rw [show W.length - 1 - j + f - (W.length - 1 - k + f) = k - j by omega, Nat.mod_eq_of_lt (by omega)] at h2
    omega
  · exact h1
  · have h2 := Nat.sub_mod_eq_zero_of_mod_eq h.symm
    rw [show W.length - 1 - k + f - (W.length - 1 - j + f) = j - k by omega, Nat.mod_eq_of_lt (by omega)] at h2
    omega
theorem Xp {A : List Ev} (h : ∀ x ∈ A, idE x ≠ idE e) : yf A e = false := by
  unfold yf
  rw [List.any_eq_false]
  exact fun x hx hs => h x hx (xp.1 hs)
theorem Js (hi : (W.map idE).Nodup) (hk : k < W.length) (hm : ((W.length : Nat) : Int) < m) : ya m (zu (W.take k)) (W.getD k default) = true ∧ yF m (zu (W.take k)) (W.getD k default) = zu (W.take (k + 1)) := by
  have hh : yf (W.take k) (W.getD k default) = false := Xp fun x hx he => by
    obtain ⟨i, hi', rfl⟩ := List.mem_take_iff_getElem.1 hx
    rw [← zm default (by omega : i < W.length)] at he
    have := VR hi (by omega) hk he
    omega
  obtain ⟨h1, h2⟩ := ZV (A := W.take k) (e := W.getD k default) (m := m) (by rw [List.length_take]; omega)
  rw [hh] at h1 h2
  exact ⟨h1, by rw [h2, if_neg (by decide), ZA hk]⟩
theorem XL (hk : k < W.length) : (W.length - 1 - k + f) % W.length < W.length := Nat.mod_lt _ (by omega)
theorem WY : xz W f (k + 1) = xz W f k ++ [W.getD ((W.length - 1 - k + f) % W.length) default] := by
  unfold xz
  rw [List.range_succ, List.map_append]; rfl
theorem Yy : (xz W f k).length = k := by unfold xz; simp
theorem VU (hi : (W.map idE).Nodup) (hk : k < W.length) : ∀ x ∈ xz W f k, idE x ≠ idE (W.getD ((W.length - 1 - k + f) % W.length) default) := fun x hx he => by
  unfold xz at hx
  obtain ⟨j, hj, rfl⟩ := List.mem_map.1 hx
  have hj' := List.mem_range.1 hj
  have := Ku (f := f) (by omega) hk (VR hi (XL (by omega)) (XL hk) he)
  omega
theorem Jy (hi : (W.map idE).Nodup) (hk : k < W.length) (hm : ((W.length : Nat) : Int) < m) : ya m (zu (xz W f k)) (W.getD ((W.length - 1 - k + f) % W.length) default) = true ∧ yF m (zu (xz W f k)) (W.getD ((W.length - 1 - k + f) % W.length) default) = zu (xz W f (k + 1)) := by
  have hh := Xp (VU (f := f) hi hk)
  obtain ⟨h1, h2⟩ := ZV (A := xz W f k) (e := W.getD ((W.length - 1 - k + f) % W.length) default) (m := m) (by rw [Yy]; omega)
  rw [hh] at h1 h2
  exact ⟨h1, by rw [h2, if_neg (by decide), WY]⟩
theorem YB (hi : (W.map idE).Nodup) : ∀ {k : Nat}, k ≤ W.length → ((xz W f k).map idE).Nodup
  | 0, _ => List.Pairwise.nil
  | k + 1, hk => by
    have h1 := VU (f := f) hi hk
    rw [WY, List.map_append]
    refine List.nodup_append.2 ⟨YB hi (Nat.le_of_lt hk), List.pairwise_singleton _ _, fun a ha b hb e => ?_⟩
    obtain ⟨x, hx, rfl⟩ := List.mem_map.1 ha
    rw [List.map_singleton, List.mem_singleton] at hb
    exact h1 x hx (e.trans hb)
theorem Qa (hi : (W.map idE).Nodup) : zu (xz W f W.length) = zu W := by
  have h1 := YB (f := f) hi (Nat.le_refl _)
  have hnd : (xz W f W.length).Nodup := (List.pairwise_map.1 h1).imp fun hab e => hab (congrArg idE e)
  have hs : ∀ x ∈ xz W f W.length, x ∈ W := fun x hx => by
    unfold xz at hx
    obtain ⟨j, hj, rfl⟩ := List.mem_map.1 hx
    exact xb (XL (List.mem_range.1 hj))
  have hnw : W.Nodup := (List.pairwise_map.1 hi).imp fun hab e => hab (congrArg idE e)
  have hp : (xz W f W.length).Perm W := (List.perm_ext_iff_of_nodup hnd hnw).2 fun x => ⟨hs x, fun hx => by
    by_cases hm : x ∈ xz W f W.length
    · exact hm
    · have h9 := Xq (T := x :: xz W f W.length) (S := W) (List.nodup_cons.2 ⟨hm, hnd⟩) (fun y hy => by
        rcases List.mem_cons.1 hy with rfl | hy
        · exact hx
        · exact hs y hy)
      rw [List.length_cons, Yy] at h9
      omega⟩
  exact ZH (yG h1) (yG hi) (sortE_perm.trans (hp.trans sortE_perm.symm))
end
end Go.Proofs.Ytmiihhbeclhaoaa
end

section
/- Steps of the proofs of this seat: part E4. -/
set_option maxRecDepth 8000
set_option maxHeartbeats 4000000
namespace Go.Proofs.Ytmiihhbeclhaoaa
open Go.Proofs Go.RowKit

theorem YU {G : Nat → Prop} {W w : World} {Rs : List HP} {n : Int} (hn : InR n) {vl : Value} {l : List Ev} (hl : RdS W G vl l) {first : Int} (hfirst : InR first) (hS0 : Sep G W Rs w) : Ret Try.prog 4 [.int .i64 (n), vl, .int .i64 (first)] w (fun r w' => r = (.bool true : Value) ∧ Sep G W Rs w') := by
 have hls : _ * 96 ≤ _ := hl.small
 refine zp (args := [.int .i64 (n), vl, .int .i64 (first)]) Try.func4 rfl rfl ?_
 refine zc ?_
 refine za (by kernel_rfl) (fun _ => ?_)
 refine st (zd (v := .bool false) rfl ?_)
 refine ze ?_
 refine zc ?_
 refine zc ?_
 refine za (by kernel_rfl) (fun _ => ?_)
 refine st (zb (v := vl) rfl ?_)
 refine st (zj (f := 8) (vals := [vl]) (cap := []) rfl rfl Try.call8 (Vf (l := l) (vl := vl) hl hS0) ?_)
 rintro _ w3 ⟨b1, rfl, hb2, hS4⟩
 refine ze ?_
 cases hc5 : b1
 ·skip
  have hc5r := hc5
  obtain ⟨hf9, _⟩ := hb2 hc5r
  refine zi rfl ?_
  refine zo ?_
  refine zc ?_
  refine za (by kernel_rfl) (fun _ => ?_)
  refine st (zb (v := .int .i64 (n)) rfl ?_)
  refine st (zj (f := 10) (vals := [.int .i64 (n), .int .i64 (64)]) (cap := []) rfl rfl Try.call10 (Zp (x := n) (n := 64) hn (by first | omega | (refine ⟨?_, ?_⟩ <;> omega)) hS4) ?_)
  rintro _ w9 ⟨q6, rfl, hq7, hqe8, hS10⟩
  have hr11 : InR ((1 + q6 : Nat) : Int) := by first | omega | (simp only [lens]; omega)
  refine st (zB (r := ((1 + q6 : Nat) : Int)) (k := .i64) (a := 1) (b := ((q6 : Nat) : Int)) rfl rfl (by rw [show (1 + ((q6 : Nat) : Int) : Int) = ((1 + q6 : Nat) : Int) by first | omega | (simp only [lens]; omega)]; exact zy hr11) ?_)
  refine st (zd (v := .int .i64 ((1 + q6 : Nat) : Int)) rfl ?_)
  refine ze ?_
  refine zc ?_
  refine za (by kernel_rfl) (fun _ => ?_)
  refine st (zb (v := .int .i64 ((1 + q6 : Nat) : Int)) rfl ?_)
  refine st (zj (f := 11) (vals := [.int .i64 ((1 + q6 : Nat) : Int)]) (cap := []) rfl rfl Try.call11 (Zg (n := 1 + q6) (by first | omega | (refine ⟨?_, ?_⟩ <;> omega)) hS10) ?_)
  rintro _ w13 ⟨b12, rfl, hS14⟩
  refine st (zd (v := .pointer (some ⟨b12, 0, none⟩)) rfl ?_)
  refine ze ?_
  refine zc ?_
  refine za (by kernel_rfl) (fun _ => ?_)
  refine st (zj (f := 12) (vals := [.int .i64 (256)]) (cap := []) rfl rfl Try.call12 (ZC (x := 256) (by decide) hS14) ?_)
  rintro _ w16 ⟨b15, rfl, hS17⟩
  refine st (zd (v := .pointer (some ⟨b15, 0, none⟩)) rfl ?_)
  refine ze ?_
  refine zc ?_
  refine za (by kernel_rfl) (fun _ => ?_)
  refine st (zj (f := 12) (vals := [.int .i64 (256)]) (cap := []) rfl rfl Try.call12 (ZC (x := 256) (by decide) hS17) ?_)
  rintro _ w19 ⟨b18, rfl, hS20⟩
  refine st (zd (v := .pointer (some ⟨b18, 0, none⟩)) rfl ?_)
  refine ze ?_
  refine zc ?_
  refine zc ?_
  refine zW (by kernel_rfl) ?_
  refine st (zb (v := .pointer (some ⟨b12, 0, none⟩)) rfl ?_)
  refine st (yR (b := b12) (o := 0) Try.underlying26 rfl ?_)
  refine st (zb (v := .bool false) rfl ?_)
  refine sty rfl rfl (zb (v := .pointer (some ⟨b15, 0, none⟩)) rfl ?_)
  refine sty rfl rfl (yR (b := b15) (o := 0) Try.underlying28 rfl ?_)
  refine st (yo (v := .bool false) rfl rfl ?_)
  refine st (zb (v := .bool false) rfl ?_)
  refine sty rfl rfl (zb (v := .pointer (some ⟨b18, 0, none⟩)) rfl ?_)
  refine sty rfl rfl (yR (b := b18) (o := 0) Try.underlying28 rfl ?_)
  refine st (yo (v := .bool false) rfl rfl ?_)
  refine ze ?_
  refine zi rfl ?_
  refine zo ?_
  refine zc ?_
  refine za (by kernel_rfl) (fun _ => ?_)
  refine st (zd (v := (.slice none 0 0)) rfl ?_)
  refine ze ?_
  refine zc ?_
  refine zc ?_
  refine za (by kernel_rfl) (fun _ => ?_)
  refine st (zd (v := .int .i64 (0)) rfl ?_)
  refine ze ?_
  refine zt ?_
  have hS21 : Sep G W ((RowE (α := Ev) (shr G W) 36 (.slice none 0 0) ([] : List Ev)) :: (BufO b18 (max 0 (min 256 256)) ([] : List Ev)) :: (BufO b15 (max 0 (min 256 256)) ([] : List Ev)) :: (SetO b12 (1 + q6) ([] : List Ev)) :: Rs) w19 := hS20.rowNil (shr G W) 36
  refine zP (fun mq σ wq => ∃ (k : Nat) (vo : Value) (ρ : Env), mq = l.length - k ∧ σ = zQ ρ [(0, .int .i64 ((1 + q6 : Nat) : Int)), (1, vl), (2, .int .i64 (first)), (7, .pointer (some ⟨b12, 0, none⟩)), (8, .pointer (some ⟨b15, 0, none⟩)), (9, .pointer (some ⟨b18, 0, none⟩)), (11, .int .i64 ((k : Nat) : Int)), (10, vo)] ∧ (k ≤ l.length) ∧ Sep G W ((RowE (α := Ev) (shr G W) 36 vo (zK l k)) :: (BufO b18 (max 0 (min 256 256)) ([] : List Ev)) :: (BufO b15 (max 0 (min 256 256)) ([] : List Ev)) :: (SetO b12 (1 + q6) ([] : List Ev)) :: Rs) wq) ⟨0, (.slice none 0 0), _, rfl, zh ⟨rfl, rfl, rfl, rfl, rfl, rfl, rfl, rfl, trivial⟩, Nat.zero_le _, hS21⟩ ?_
  rintro m23 σ24 w22 ⟨k, vo, ρl1, rfl, rfl, hkk, hS25⟩
  have hr26 := hS25.row (i := 0) rfl
  have hr26s : _ * 96 ≤ _ := hr26.2
  have hown9 := Zs (l := l) (k := k)
  refine zc ?_
  refine zc ?_
  refine za (by kernel_rfl) (fun _ => ?_)
  refine st (zb (v := .int .i64 ((k : Nat) : Int)) rfl ?_)
  refine st (zb (v := vl) rfl ?_)
  refine st (zJ (n := l.length) Try.underlying22 rfl hl.sl ?_)
  refine st (zH (k := .i64) (a := ((k : Nat) : Int)) (b := ((l.length : Nat) : Int)) rfl rfl ?_)
  refine ze ?_
  cases hc27 : decide (((k : Nat) : Int) < ((l.length : Nat) : Int))
  ·skip
   have hc27r := hc27
   have hc27 := of_decide_eq_false hc27
   refine zi rfl ?_
   refine zO ?_
   refine zF ?_
   refine zc ?_
   obtain rfl : k = l.length := by omega
   have hWl : (zK l l.length).length ≤ 60 := Nat.le_trans Zs (by omega)
   have hWi : ((zK l l.length).map idE).Nodup := YD (Nat.le_refl _)
   obtain ⟨W9, hW9⟩ : ∃ W9, zK l l.length = W9 := ⟨_, rfl⟩
   rw [hW9] at hWl hWi
   rw [hW9] at hS25
   have hS28 : Sep G W ((RowE (α := Ev) (shr G W) 36 vo W9) :: (BufO b18 (max 0 (min 256 256)) ([] : List Ev)) :: (BufO b15 (max 0 (min 256 256)) ([] : List Ev)) :: (SetO b12 (1 + q6) ([] : List Ev)) :: Rs) w22 := hS25
   have hr29 := hS28.row (i := 0) rfl
   have hr29s : _ * 96 ≤ _ := hr29.2
   refine za (by kernel_rfl) (fun _ => ?_)
   refine st (zb (v := .int .i64 (first)) rfl ?_)
   refine st (zb (v := vo) rfl ?_)
   refine st (zJ (n := W9.length) Try.underlying22 rfl hr29.1 ?_)
   have hr30 : InR ((W9.length + 1 : Nat) : Int) := by first | omega | (simp only [lens]; omega)
   refine st (zB (r := ((W9.length + 1 : Nat) : Int)) (k := .i64) (a := ((W9.length : Nat) : Int)) (b := 1) rfl rfl (by rw [show (((W9.length : Nat) : Int) + 1 : Int) = ((W9.length + 1 : Nat) : Int) by first | omega | (simp only [lens]; omega)]; exact zy hr30) ?_)
   refine st (zj (f := 10) (vals := [.int .i64 (first), .int .i64 ((W9.length + 1 : Nat) : Int)]) (cap := []) rfl rfl Try.call10 (Zp (x := first) (n := W9.length + 1) hfirst (by first | omega | (refine ⟨?_, ?_⟩ <;> omega)) hS28) ?_)
   rintro _ w34 ⟨q31, rfl, hq32, hqe33, hS35⟩
   refine st (zd (v := .int .i64 ((q31 : Nat) : Int)) rfl ?_)
   refine ze ?_
   refine zc ?_
   refine zc ?_
   refine za (by kernel_rfl) (fun _ => ?_)
   refine st (zd (v := .int .i64 (0)) rfl ?_)
   refine ze ?_
   refine zt ?_
   refine zP (fun mq σ wq => ∃ (k : Nat) (ρ : Env), mq = W9.length - k ∧ σ = zQ ρ [(2, .int .i64 ((q31 : Nat) : Int)), (7, .pointer (some ⟨b12, 0, none⟩)), (8, .pointer (some ⟨b15, 0, none⟩)), (9, .pointer (some ⟨b18, 0, none⟩)), (10, vo), (12, .int .i64 ((k : Nat) : Int))] ∧ (k ≤ W9.length) ∧ Sep G W ((RowE (α := Ev) (shr G W) 36 vo W9) :: (BufO b18 (max 0 (min 256 256)) (zu (xz W9 q31 k))) :: (BufO b15 (max 0 (min 256 256)) (zu (W9.take k))) :: (SetO b12 (1 + q6) ([] : List Ev)) :: Rs) wq) ⟨0, _, rfl, zh ⟨rfl, rfl, rfl, rfl, rfl, rfl, trivial⟩, Nat.zero_le _, hS35⟩ ?_
   rintro m37 σ38 w36 ⟨k, ρl2, rfl, rfl, hkk, hS39⟩
   refine zc ?_
   refine zc ?_
   refine za (by kernel_rfl) (fun _ => ?_)
   refine st (zb (v := .int .i64 ((k : Nat) : Int)) rfl ?_)
   refine st (zb (v := vo) rfl ?_)
   refine st (zJ (n := W9.length) Try.underlying22 rfl hr29.1 ?_)
   refine st (zH (k := .i64) (a := ((k : Nat) : Int)) (b := ((W9.length : Nat) : Int)) rfl rfl ?_)
   refine ze ?_
   cases hc40 : decide (((k : Nat) : Int) < ((W9.length : Nat) : Int))
   ·skip
    have hc40r := hc40
    have hc40 := of_decide_eq_false hc40
    refine zi rfl ?_
    refine zO ?_
    refine zF ?_
    refine zc ?_
    obtain rfl : k = W9.length := by omega
    have hte9 := Qa (f := q31) hWi
    rw [List.take_length] at hS39
    have hS41 : Sep G W ((RowE (α := Ev) (shr G W) 36 vo W9) :: (BufO b18 (max 0 (min 256 256)) (zu (xz W9 q31 W9.length))) :: (BufO b15 (max 0 (min 256 256)) (zu W9)) :: (SetO b12 (1 + q6) ([] : List Ev)) :: Rs) w36 := hS39
    rw [hte9] at hS41
    have hS42 : Sep G W ((RowE (α := Ev) (shr G W) 36 vo W9) :: (BufO b18 (max 0 (min 256 256)) (zu W9)) :: (BufO b15 (max 0 (min 256 256)) (zu W9)) :: (SetO b12 (1 + q6) ([] : List Ev)) :: Rs) w36 := hS41
    have hsw9 : (zu W9).length ≤ 60 := by rw [yD]; omega
    refine zW (by kernel_rfl) ?_
    refine st (zb (v := .pointer (some ⟨b15, 0, none⟩)) rfl ?_)
    refine st (zb (v := .pointer (some ⟨b12, 0, none⟩)) rfl ?_)
    have hS43 := hS42.mv3
    obtain ⟨G44, hA46, hB47, hS48, hk49⟩ := hS43.lend
    obtain ⟨vv50, m51, R52, hb53, hv54, hr55⟩ := SetO.sh hA46
    have hsm56 : (zz (1 + q6) ([] : List Ev)).length * 8 ≤ 140737488355328 := hv54.small
    have hS57 := hS48.mv2
    refine st (zj (f := 17) (vals := [.pointer (some ⟨b15, 0, none⟩), .pointer (some ⟨b12, 0, none⟩)]) (cap := []) rfl rfl Try.call17 (xH  hA46 hS57 ((by decide)) (Good.nil) (by omega) ((by rw [List.length_nil]; omega))) ?_)
    rintro v58 w59 ⟨_, rfl, hS60⟩
    have hr61 := hS60.row (i := 0) rfl
    have hr61s : _ * 96 ≤ _ := hr61.2
    have hS62 := hk49 _ _ hS60
    refine st (zb (v := .pointer (some ⟨b18, 0, none⟩)) rfl ?_)
    refine st (zb (v := .pointer (some ⟨b12, 0, none⟩)) rfl ?_)
    obtain ⟨G63, hA65, hB66, hS67, hk68⟩ := hS62.lend
    obtain ⟨vv69, m70, R71, hb72, hv73, hr74⟩ := SetO.sh hA65
    have hsm75 : (zz (1 + q6) ([] : List Ev)).length * 8 ≤ 140737488355328 := hv73.small
    have hS76 := hS67.mv3
    refine st (zj (f := 17) (vals := [.pointer (some ⟨b18, 0, none⟩), .pointer (some ⟨b12, 0, none⟩)]) (cap := []) rfl rfl Try.call17 (xH  hA65 hS76 ((by decide)) (Good.nil) (by omega) ((by rw [List.length_nil]; omega))) ?_)
    rintro v77 w78 ⟨_, rfl, hS79⟩
    have hr80 := hS79.row (i := 0) rfl
    have hr80s : _ * 96 ≤ _ := hr80.2
    have hS81 := hk68 _ _ hS79
    have hS82 := hS81.mv3
    obtain ⟨G83, hA85, hB86, hS87, hk88⟩ := hS82.lend
    have hrd89 := RowE.rd hA85
    have hrd89s : _ * 96 ≤ _ := hrd89.small
    have hS90 := hS87.mv1
    obtain ⟨G91, hA93, hB94, hS95, hk96⟩ := hS90.lend
    have hrd97 := RowE.rd hA93
    have hrd97s : _ * 96 ≤ _ := hrd97.small
    refine st (zj (f := 19) (vals := [v58, v77]) (cap := []) rfl rfl Try.call19 (xo (a := (yn (1 + q6) ([] : List Ev) ((zu W9).filter (fun x => !zA ([] : List Ev) x)))) (va := v58) (b := (yn (1 + q6) ([] : List Ev) ((zu W9).filter (fun x => !zA ([] : List Ev) x)))) (vb := v77) (RdS.base hrd89 hB94) hrd97 hS95) ?_)
    rintro _ w98 ⟨rfl, hS99⟩
    have hS100 := hk96 _ _ hS99
    have hS101 := hk88 _ _ hS100
    have hkn102 : (decide ((yn (1 + q6) ([] : List Ev) ((zu W9).filter (fun x => !zA ([] : List Ev) x))) = (yn (1 + q6) ([] : List Ev) ((zu W9).filter (fun x => !zA ([] : List Ev) x))))) = true := decide_eq_true rfl
    rw [hkn102]
    refine st (zb (v := .bool true) rfl ?_)
    refine sty rfl rfl (zb (v := .pointer (some ⟨b15, 0, none⟩)) rfl ?_)
    have hS103 := hS101.mv4
    obtain ⟨G104, hA106, hB107, hS108, hk109⟩ := hS103.lend
    obtain ⟨vl110, hb111, hl112⟩ := BufO.sh hA106
    have hsm113 : (yy (1 + q6) ([] : List Ev) ((zu W9).filter (fun x => !zA ([] : List Ev) x))).length * 96 ≤ 140737488355328 := hl112.small
    refine sty rfl rfl (zj (f := 18) (vals := [.pointer (some ⟨b15, 0, none⟩)]) (cap := []) rfl rfl Try.call18 (xL  hA106 hS108) ?_)
    rintro _ w114 ⟨rfl, hS115⟩
    have hS116 := hk109 _ _ hS115
    refine sty rfl rfl (zb (v := .pointer (some ⟨b18, 0, none⟩)) rfl ?_)
    have hS117 := hS116.mv4
    obtain ⟨G118, hA120, hB121, hS122, hk123⟩ := hS117.lend
    obtain ⟨vl124, hb125, hl126⟩ := BufO.sh hA120
    have hsm127 : (yy (1 + q6) ([] : List Ev) ((zu W9).filter (fun x => !zA ([] : List Ev) x))).length * 96 ≤ 140737488355328 := hl126.small
    refine sty rfl rfl (zj (f := 18) (vals := [.pointer (some ⟨b18, 0, none⟩)]) (cap := []) rfl rfl Try.call18 (xL  hA120 hS122) ?_)
    rintro _ w128 ⟨rfl, hS129⟩
    have hS130 := hk123 _ _ hS129
    refine sty rfl rfl (yq (k := .i64) (a := (((yy (1 + q6) ([] : List Ev) ((zu W9).filter (fun x => !zA ([] : List Ev) x))).length : Nat) : Int)) (b := (((yy (1 + q6) ([] : List Ev) ((zu W9).filter (fun x => !zA ([] : List Ev) x))).length : Nat) : Int)) rfl rfl ?_)
    have hkn131 : (decide ((((yy (1 + q6) ([] : List Ev) ((zu W9).filter (fun x => !zA ([] : List Ev) x))).length : Nat) : Int) = (((yy (1 + q6) ([] : List Ev) ((zu W9).filter (fun x => !zA ([] : List Ev) x))).length : Nat) : Int))) = true := decide_eq_true rfl
    rw [hkn131]
    refine st (yw (v := .bool true) rfl rfl ?_)
    refine st (zb (v := .bool true) rfl ?_)
    refine sty rfl rfl (zj (f := 9) (vals := []) (cap := []) rfl rfl Try.call9 (xi  hS130) ?_)
    rintro _ w132 ⟨rfl, hS133⟩
    refine st (yw (v := .bool true) rfl rfl ?_)
    refine st (zd (v := .bool true) rfl ?_)
    refine ze ?_
    refine zw ?_
    refine zL Try.results4 (show _ = (.bool true : Value) from rfl) ?_
    have hS134 : Sep G W Rs w132 := hS133.sel 6 [] (Nat.le_add_left _ _) rfl rfl
    refine ⟨rfl, hS134⟩
   ·skip
    have hc40r := hc40
    have hc40 := of_decide_eq_true hc40
    refine zk rfl ?_
    refine zo ?_
    refine zc ?_
    refine zt ?_
    refine zc ?_
    have hta9 := Js (m := (max 0 (min 256 256))) (k := k) hWi (by omega) (by omega)
    have htb9 := Jy (m := (max 0 (min 256 256))) (k := k) (f := q31) hWi (by omega) (by omega)
    have hri9 := XL (W := W9) (f := q31) (k := k) (by omega)
    refine zW (by kernel_rfl) ?_
    refine st (zb (v := .pointer (some ⟨b15, 0, none⟩)) rfl ?_)
    refine st (zb (v := vo) rfl ?_)
    refine st (zb (v := .int .i64 ((k : Nat) : Int)) rfl ?_)
    have hi135 : k < W9.length := (by first | omega | (simp only [lens]; omega))
    refine st (zl (k := 10) (i := k) Try.underlying22 Try.sizeOf36 rfl hr29.1 rfl hi135 ?_)
    have hi137 : k < W9.length := (by first | omega | (simp only [lens]; omega))
    obtain ⟨_, _, hce136, de136_0, rfl, hde136_0, hoke136⟩ := hS39.rowAt (i := 0) (j := k) rfl hi137
    rw [← zm default hi137] at hce136 hde136_0 hoke136
    refine st (zr (k := 10) Try.isAgg36 Try.sizeOf36 rfl rfl hce136 ?_)
    have hS138 := hS39.mv2
    refine st (zj (f := 14) (vals := [.pointer (some ⟨b15, 0, none⟩), .agg ((W9.getD k default).cells de136_0).toArray]) (cap := []) rfl rfl Try.call14 (xk (e := (W9.getD k default)) hde136_0 hoke136 hS138 ((by decide)) (by first | exact yG (List.Nodup.sublist ((List.take_sublist ..).map idE) hWi) | exact yG (YB hWi (by omega))) ((by rw [yD]; first | (rw [Yy]; omega) | (rw [List.length_take]; omega)))) ?_)
    rintro _ w139 ⟨rfl, hS140⟩
    refine st (yA (a := (ya (max 0 (min 256 256)) (zu (W9.take k)) (W9.getD k default))) rfl ?_)
    have hkn141 : (!(ya (max 0 (min 256 256)) (zu (W9.take k)) (W9.getD k default))) = false := (by rw [hta9.1]; rfl)
    rw [hkn141]
    refine st (zb (v := .bool false) rfl ?_)
    refine sty rfl rfl (zb (v := .pointer (some ⟨b18, 0, none⟩)) rfl ?_)
    refine sty rfl rfl (zb (v := vo) rfl ?_)
    refine sty rfl rfl (zb (v := vo) rfl ?_)
    refine sty rfl rfl (zJ (n := W9.length) Try.underlying22 rfl hr29.1 ?_)
    have hr142 : InR ((W9.length - 1 : Nat) : Int) := by first | omega | (simp only [lens]; omega)
    refine sty rfl rfl (Za (r := ((W9.length - 1 : Nat) : Int)) (k := .i64) (a := ((W9.length : Nat) : Int)) (b := 1) rfl rfl (by rw [show (((W9.length : Nat) : Int) - 1 : Int) = ((W9.length - 1 : Nat) : Int) by first | omega | (simp only [lens]; omega)]; exact zy hr142) ?_)
    refine sty rfl rfl (zb (v := .int .i64 ((k : Nat) : Int)) rfl ?_)
    have hr143 : InR (((W9.length - 1) - k : Nat) : Int) := by first | omega | (simp only [lens]; omega)
    refine sty rfl rfl (Za (r := (((W9.length - 1) - k : Nat) : Int)) (k := .i64) (a := ((W9.length - 1 : Nat) : Int)) (b := ((k : Nat) : Int)) rfl rfl (by rw [show (((W9.length - 1 : Nat) : Int) - ((k : Nat) : Int) : Int) = (((W9.length - 1) - k : Nat) : Int) by first | omega | (simp only [lens]; omega)]; exact zy hr143) ?_)
    refine sty rfl rfl (zb (v := .int .i64 ((q31 : Nat) : Int)) rfl ?_)
    have hr144 : InR (((W9.length - 1) - k + q31 : Nat) : Int) := by first | omega | (simp only [lens]; omega)
    refine sty rfl rfl (zB (r := (((W9.length - 1) - k + q31 : Nat) : Int)) (k := .i64) (a := (((W9.length - 1) - k : Nat) : Int)) (b := ((q31 : Nat) : Int)) rfl rfl (by rw [show ((((W9.length - 1) - k : Nat) : Int) + ((q31 : Nat) : Int) : Int) = (((W9.length - 1) - k + q31 : Nat) : Int) by first | omega | (simp only [lens]; omega)]; exact zy hr144) ?_)
    refine sty rfl rfl (zb (v := vo) rfl ?_)
    refine sty rfl rfl (zJ (n := W9.length) Try.underlying22 rfl hr29.1 ?_)
    have h0145 : (0 : Int) < ((W9.length : Nat) : Int) := by omega
    have h0145m : ((W9.length - 1) - k + q31) % W9.length < W9.length := Nat.mod_lt _ (by omega)
    refine sty rfl rfl (Ya (r := ((((W9.length - 1) - k + q31) % W9.length : Nat) : Int)) rfl rfl h0145 (Int.ofNat_tmod _ _).symm ?_)
    have hi146 : ((W9.length - 1) - k + q31) % W9.length < W9.length := hri9
    refine sty rfl rfl (zl (k := 10) (i := ((W9.length - 1) - k + q31) % W9.length) Try.underlying22 Try.sizeOf36 rfl hr29.1 rfl hi146 ?_)
    have hi148 : ((W9.length - 1) - k + q31) % W9.length < W9.length := (by first | omega | (simp only [lens]; omega))
    obtain ⟨_, _, hce147, de147_0, rfl, hde147_0, hoke147⟩ := hS140.rowAt (i := 1) (j := ((W9.length - 1) - k + q31) % W9.length) rfl hi148
    rw [← zm default hi148] at hce147 hde147_0 hoke147
    refine sty rfl rfl (zr (k := 10) Try.isAgg36 Try.sizeOf36 rfl rfl hce147 ?_)
    have hS149 := hS140.mv2
    refine sty rfl rfl (zj (f := 14) (vals := [.pointer (some ⟨b18, 0, none⟩), .agg ((W9.getD (((W9.length - 1) - k + q31) % W9.length) default).cells de147_0).toArray]) (cap := []) rfl rfl Try.call14 (xk (e := (W9.getD (((W9.length - 1) - k + q31) % W9.length) default)) hde147_0 hoke147 hS149 ((by decide)) (by first | exact yG (List.Nodup.sublist ((List.take_sublist ..).map idE) hWi) | exact yG (YB hWi (by omega))) ((by rw [yD]; first | (rw [Yy]; omega) | (rw [List.length_take]; omega)))) ?_)
    rintro _ w150 ⟨rfl, hS151⟩
    refine sty rfl rfl (yA (a := (ya (max 0 (min 256 256)) (zu (xz W9 q31 k)) (W9.getD (((W9.length - 1) - k + q31) % W9.length) default))) rfl ?_)
    have hkn152 : (!(ya (max 0 (min 256 256)) (zu (xz W9 q31 k)) (W9.getD (((W9.length - 1) - k + q31) % W9.length) default))) = false := (by rw [htb9.1]; rfl)
    rw [hkn152]
    refine st (yo (v := .bool false) rfl rfl ?_)
    refine ze ?_
    refine zi rfl ?_
    refine zo ?_
    refine za (by kernel_rfl) (fun _ => ?_)
    refine st (zb (v := .int .i64 ((k : Nat) : Int)) rfl ?_)
    have hr153 : InR ((k + 1 : Nat) : Int) := by first | omega | (simp only [lens]; omega)
    refine st (zB (r := ((k + 1 : Nat) : Int)) (k := .i64) (a := ((k : Nat) : Int)) (b := 1) rfl rfl (by rw [show (((k : Nat) : Int) + 1 : Int) = ((k + 1 : Nat) : Int) by first | omega | (simp only [lens]; omega)]; exact zy hr153) ?_)
    refine st (zd (v := .int .i64 ((k + 1 : Nat) : Int)) rfl ?_)
    refine ze ?_
    have hS154 := hS151.mv2
    have hL155 : (zu (W9.take (k + 1))) = (yF (max 0 (min 256 256)) (zu (W9.take k)) (W9.getD k default)) := hta9.2.symm
    rw [← hL155] at hS154
    have hL156 : (zu (xz W9 q31 (k + 1))) = (yF (max 0 (min 256 256)) (zu (xz W9 q31 k)) (W9.getD (((W9.length - 1) - k + q31) % W9.length) default)) := htb9.2.symm
    rw [← hL156] at hS154
    exact ⟨_, by omega, k + 1, _, rfl, zh ⟨rfl, rfl, rfl, rfl, rfl, rfl, trivial⟩, by omega, hS154⟩
  ·skip
   have hc27r := hc27
   have hc27 := of_decide_eq_true hc27
   refine zk rfl ?_
   refine zo ?_
   refine zc ?_
   refine zt ?_
   refine zc ?_
   refine za (by kernel_rfl) (fun _ => ?_)
   refine st (zb (v := vl) rfl ?_)
   refine st (zb (v := .int .i64 ((k : Nat) : Int)) rfl ?_)
   refine st (zj (f := 16) (vals := [vl, .int .i64 ((k : Nat) : Int)]) (cap := []) rfl rfl Try.call16 (Va (l := l) (vl := vl) (i := k) hl (by first | omega | (refine ⟨?_, ?_⟩ <;> omega)) hS25) ?_)
   rintro _ w157 ⟨rfl, hS158⟩
   refine st (yA (a := (xu l k)) rfl ?_)
   refine ze ?_
   cases hc159 : !(xu l k)
   ·skip
    have hc159r := hc159
    try simp only [zx] at hc159
    refine zi rfl ?_
    refine zo ?_
    refine za (by kernel_rfl) (fun _ => ?_)
    refine st (zb (v := .int .i64 ((k : Nat) : Int)) rfl ?_)
    have hr160 : InR ((k + 1 : Nat) : Int) := by first | omega | (simp only [lens]; omega)
    refine st (zB (r := ((k + 1 : Nat) : Int)) (k := .i64) (a := ((k : Nat) : Int)) (b := 1) rfl rfl (by rw [show (((k : Nat) : Int) + 1 : Int) = ((k + 1 : Nat) : Int) by first | omega | (simp only [lens]; omega)]; exact zy hr160) ?_)
    refine st (zd (v := .int .i64 ((k + 1 : Nat) : Int)) rfl ?_)
    refine ze ?_
    have hL161 : (zK l (k + 1)) = (zK l k) := (xX (by simpa using hc159r))
    rw [← hL161] at hS158
    exact ⟨_, by omega, k + 1, vo, _, rfl, zh ⟨rfl, rfl, rfl, rfl, rfl, rfl, rfl, rfl, trivial⟩, by omega, hS158⟩
   ·skip
    have hc159r := hc159
    try simp only [zx] at hc159
    refine zk rfl ?_
    refine za (by kernel_rfl) (fun _ => ?_)
    refine st (zb (v := vo) rfl ?_)
    refine st (zb (v := vl) rfl ?_)
    refine st (zb (v := .int .i64 ((k : Nat) : Int)) rfl ?_)
    have hi162 : k < l.length := (by first | omega | (simp only [lens]; omega))
    refine st (zl (k := 10) (i := k) Try.underlying22 Try.sizeOf36 rfl hl.sl rfl hi162 ?_)
    have hi164 : k < l.length := (by first | omega | (simp only [lens]; omega))
    obtain ⟨hce163, hde163_0, hoke163⟩ := hl.ev hi164
    rw [← zm default hi164] at hce163 hde163_0 hoke163
    have hsm165 : ((l.getD k default).deps).length * 8 ≤ 140737488355328 := hde163_0.small
    have hcw166 := hS158.cells hce163 (hl.foot (ne_of_lt hi164))
    refine st (zr (k := 10) Try.isAgg36 Try.sizeOf36 rfl rfl hcw166 ?_)
    refine st (zD (k := 10) (parts' := [(0, .agg ((l.getD k default).cells (zT W (sb vl) (so vl + k * 10 + 3))).toArray)]) (c := ((l.getD k default).cells (zT W (sb vl) (so vl + k * 10 + 3))).toArray) Try.underlying22 Try.sizeOf36 Try.zeroValue36 (by decide) rfl (by kernel_rfl) ?_)
    intro w169 b168 hn167
    have hS170 := hS158.new hn167
    have hbk174 := hS170.blk (i := 0) rfl
    have hS175 : Sep G W ((RowE (α := Ev) (shr G W) 36 vo (zK l k)) :: (BufO b18 (max 0 (min 256 256)) ([] : List Ev)) :: (BufO b15 (max 0 (min 256 256)) ([] : List Ev)) :: (SetO b12 (1 + q6) ([] : List Ev)) :: Rs) w169 := hS170.sel 5 [1, 2, 3, 4] (Nat.le_add_left _ _) rfl rfl
    have hS176 : Sep G W ((RowE (α := Ev) (shr G W) 36 vo (zK l k)) :: Emp :: (BufO b18 (max 0 (min 256 256)) ([] : List Ev)) :: (BufO b15 (max 0 (min 256 256)) ([] : List Ev)) :: (SetO b12 (1 + q6) ([] : List Ev)) :: Rs) w169 := hS175.emp1
    refine st (zZ (src := (shr G W)) (bytes := 96) (x1 := (l.getD k default)) hS176 xZ rfl rfl hbk174 (fun _ _ _ => (show _ from ⟨_, rfl, hde163_0, hoke163⟩)) (by first | omega | (simp only [List.length_append, List.length_cons, List.length_nil, List.length_take, List.length_drop]; omega)) rfl ?_)
    intro v172 w171 hS173
    have hr177 := hS173.row (i := 0) rfl
    have hr177s : _ * 96 ≤ _ := hr177.2
    refine st (zd (v := v172) rfl ?_)
    refine ze ?_
    refine za (by kernel_rfl) (fun _ => ?_)
    refine st (zb (v := .int .i64 ((k : Nat) : Int)) rfl ?_)
    have hr178 : InR ((k + 1 : Nat) : Int) := by first | omega | (simp only [lens]; omega)
    refine st (zB (r := ((k + 1 : Nat) : Int)) (k := .i64) (a := ((k : Nat) : Int)) (b := 1) rfl rfl (by rw [show (((k : Nat) : Int) + 1 : Int) = ((k + 1 : Nat) : Int) by first | omega | (simp only [lens]; omega)]; exact zy hr178) ?_)
    refine st (zd (v := .int .i64 ((k + 1 : Nat) : Int)) rfl ?_)
    refine ze ?_
    have hL179 : (zK l (k + 1)) = (zK l k) ++ [(l.getD k default)] := (Zf (by simpa using hc159r))
    rw [← hL179] at hS173
    exact ⟨_, by omega, k + 1, v172, _, rfl, zh ⟨rfl, rfl, rfl, rfl, rfl, rfl, rfl, rfl, trivial⟩, by omega, hS173⟩
 ·skip
  have hc5r := hc5
  refine zk rfl ?_
  refine zc ?_
  refine za (by kernel_rfl) (fun _ => ?_)
  refine st (zj (f := 9) (vals := []) (cap := []) rfl rfl Try.call9 (xi  hS4) ?_)
  rintro _ w180 ⟨rfl, hS181⟩
  refine st (zd (v := .bool true) rfl ?_)
  refine ze ?_
  refine zw ?_
  refine zL Try.results4 (show _ = (.bool true : Value) from rfl) ?_
  refine ⟨rfl, hS181⟩

end Go.Proofs.Ytmiihhbeclhaoaa
end
