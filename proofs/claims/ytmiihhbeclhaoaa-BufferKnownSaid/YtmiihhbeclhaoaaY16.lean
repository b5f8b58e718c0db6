/- Texts of this claim, part 16. -/
import Derived.Test.YtmiihhbeclhaoaaY15
set_option linter.unusedSimpArgs false
set_option linter.unusedVariables false
set_option linter.unusedSectionVars false
section
/- Steps of the proofs of this seat: part E5. -/
set_option maxRecDepth 8000
set_option maxHeartbeats 4000000
namespace Go.Proofs.Ytmiihhbeclhaoaa
open Go.Proofs Go.RowKit

theorem Wf {P : Program} {n : Nat} {c : Code} {Q : xR} {σ : Env} {w : World} (J : Env → World → Prop) (h : WP P n c (fun e σ w => e = .normal ∧ J σ w) σ w) (hq : ∀ σ w, J σ w → Q .normal σ w) : WP P n c Q σ w := fun a hs =>
  wp_mono (h a hs) (by rintro e a' w' ⟨σ'', hs'', rfl, hj⟩; exact ⟨σ'', hs'', hq _ _ hj⟩)
section
variable {m : Int} {M B T L : List Ev} {e : Ev} {n : Nat}
theorem YK : ya m (zu M) e = ya m M e := by unfold ya; rw [WK sortE_perm, yD]
theorem Vi : yF m (zu M) e = zu (xn m M e) := by
  unfold yF xn
  rw [YK]
  split
  · exact sortE_snoc.symm
  · rfl
theorem UB (h : (M.map idE).Nodup) : ((xn m M e).map idE).Nodup := by
  unfold xn
  split
  · rename_i hb
    have hh : yf M e = false := by
      unfold ya at hb
      cases hh : yf M e with
      | false => rfl
      | true => rw [hh, Bool.or_true] at hb; cases hb
    rw [List.map_append]
    exact List.nodup_append.2 ⟨h, List.pairwise_singleton _ _, fun a ha b hb' e1 => Wh hh (by rw [List.mem_singleton.1 hb'] at e1; rw [← e1]; exact ha)⟩
  · exact h
theorem Uo : (xn m M e).length ≤ M.length + 1 := by
  unfold xn
  split
  · rw [List.length_append]; exact Nat.le_refl _
  · omega
theorem KA : (yn n T B).length + (yy n T B).length = B.length := by
  obtain ⟨_, hp, _⟩ := Yz (n := n) _ (T := T) (B := B) rfl
  rw [← List.length_append]; exact hp.length_eq
theorem WW : (yn n T ((zu M).filter fun x => !zA L x)).length + (yy n T ((zu M).filter fun x => !zA L x)).length ≤ M.length := by
  rw [KA]
  exact Nat.le_trans (List.length_filter_le ..) (by rw [yD]; exact Nat.le_refl _)
end
theorem Xd {G : Nat → Prop} {W w : World} {Rs : List HP} {most : Int} (hmost : InR most) {n : Int} (hn : InR n) {vl : Value} {l : List Ev} (hl : RdS W G vl l) {every : Int} (hevery : InR every) (hS0 : Sep G W Rs w) : Ret Try.prog 5 [.int .i64 (most), .int .i64 (n), vl, .int .i64 (every)] w (fun r w' => r = (.bool true : Value) ∧ Sep G W Rs w') := by
 have hls : _ * 96 ≤ _ := hl.small
 refine zp (args := [.int .i64 (most), .int .i64 (n), vl, .int .i64 (every)]) Try.func5 rfl rfl ?_
 refine zc ?_
 refine za (by kernel_rfl) (fun _ => ?_)
 refine st (zd (v := .bool false) rfl ?_)
 refine ze ?_
 refine zc ?_
 refine zc ?_
 refine za (by kernel_rfl) (fun _ => ?_)
 refine st (zb (v := vl) rfl ?_)
 refine st (zj (f := 8) (vals := [vl]) (cap := []) rfl rfl Try.call8 (Vf (l := l) (vl := vl) hl hS0) ?_)
 rintro _ w3 ⟨b1, rfl, hb2, hS4⟩
 refine ze ?_
 cases hc5 : b1
 ·skip
  have hc5r := hc5
  obtain ⟨hf9, _⟩ := hb2 hc5r
  refine zi rfl ?_
  refine zo ?_
  refine zc ?_
  refine za (by kernel_rfl) (fun _ => ?_)
  refine st (zb (v := .int .i64 (n)) rfl ?_)
  refine st (zj (f := 10) (vals := [.int .i64 (n), .int .i64 (64)]) (cap := []) rfl rfl Try.call10 (Zp (x := n) (n := 64) hn (by first | omega | (refine ⟨?_, ?_⟩ <;> omega)) hS4) ?_)
  rintro _ w9 ⟨q6, rfl, hq7, hqe8, hS10⟩
  have hr11 : InR ((1 + q6 : Nat) : Int) := by first | omega | (simp only [lens]; omega)
  refine st (zB (r := ((1 + q6 : Nat) : Int)) (k := .i64) (a := 1) (b := ((q6 : Nat) : Int)) rfl rfl (by rw [show (1 + ((q6 : Nat) : Int) : Int) = ((1 + q6 : Nat) : Int) by first | omega | (simp only [lens]; omega)]; exact zy hr11) ?_)
  refine st (zd (v := .int .i64 ((1 + q6 : Nat) : Int)) rfl ?_)
  refine ze ?_
  refine zc ?_
  refine za (by kernel_rfl) (fun _ => ?_)
  refine st (zb (v := .int .i64 (every)) rfl ?_)
  refine st (zj (f := 10) (vals := [.int .i64 (every), .int .i64 (9)]) (cap := []) rfl rfl Try.call10 (Zp (x := every) (n := 9) hevery (by first | omega | (refine ⟨?_, ?_⟩ <;> omega)) hS10) ?_)
  rintro _ w15 ⟨q12, rfl, hq13, hqe14, hS16⟩
  have hr17 : InR ((1 + q12 : Nat) : Int) := by first | omega | (simp only [lens]; omega)
  refine st (zB (r := ((1 + q12 : Nat) : Int)) (k := .i64) (a := 1) (b := ((q12 : Nat) : Int)) rfl rfl (by rw [show (1 + ((q12 : Nat) : Int) : Int) = ((1 + q12 : Nat) : Int) by first | omega | (simp only [lens]; omega)]; exact zy hr17) ?_)
  refine st (zd (v := .int .i64 ((1 + q12 : Nat) : Int)) rfl ?_)
  refine ze ?_
  refine zc ?_
  refine za (by kernel_rfl) (fun _ => ?_)
  refine st (zb (v := .int .i64 (most)) rfl ?_)
  refine st (zj (f := 12) (vals := [.int .i64 (most)]) (cap := []) rfl rfl Try.call12 (ZC (x := most) hmost hS16) ?_)
  rintro _ w19 ⟨b18, rfl, hS20⟩
  refine st (zd (v := .pointer (some ⟨b18, 0, none⟩)) rfl ?_)
  refine ze ?_
  refine zc ?_
  refine za (by kernel_rfl) (fun _ => ?_)
  refine st (zb (v := .int .i64 (most)) rfl ?_)
  refine st (zj (f := 20) (vals := [.int .i64 (most)]) (cap := []) rfl rfl Try.call20 (Kp (x := most) hmost hS20) ?_)
  rintro _ w22 ⟨b21, rfl, hS23⟩
  refine st (zd (v := .pointer (some ⟨b21, 0, none⟩)) rfl ?_)
  refine ze ?_
  refine zc ?_
  refine za (by kernel_rfl) (fun _ => ?_)
  refine st (zb (v := .int .i64 ((1 + q6 : Nat) : Int)) rfl ?_)
  refine st (zj (f := 11) (vals := [.int .i64 ((1 + q6 : Nat) : Int)]) (cap := []) rfl rfl Try.call11 (Zg (n := 1 + q6) (by first | omega | (refine ⟨?_, ?_⟩ <;> omega)) hS23) ?_)
  rintro _ w25 ⟨b24, rfl, hS26⟩
  refine st (zd (v := .pointer (some ⟨b24, 0, none⟩)) rfl ?_)
  refine ze ?_
  refine zc ?_
  refine za (by kernel_rfl) (fun _ => ?_)
  refine st (zb (v := .int .i64 ((1 + q6 : Nat) : Int)) rfl ?_)
  refine st (zj (f := 21) (vals := [.int .i64 ((1 + q6 : Nat) : Int)]) (cap := []) rfl rfl Try.call21 (QH (n := 1 + q6) (by first | omega | (refine ⟨?_, ?_⟩ <;> omega)) hS26) ?_)
  rintro _ w28 ⟨b27, rfl, hS29⟩
  refine st (zd (v := .pointer (some ⟨b27, 0, none⟩)) rfl ?_)
  refine ze ?_
  refine zc ?_
  refine zc ?_
  refine zW (by kernel_rfl) ?_
  refine st (zb (v := .pointer (some ⟨b18, 0, none⟩)) rfl ?_)
  refine st (yR (b := b18) (o := 0) Try.underlying28 rfl ?_)
  refine st (zb (v := .bool false) rfl ?_)
  refine sty rfl rfl (zb (v := .pointer (some ⟨b24, 0, none⟩)) rfl ?_)
  refine sty rfl rfl (yR (b := b24) (o := 0) Try.underlying26 rfl ?_)
  refine st (yo (v := .bool false) rfl rfl ?_)
  refine ze ?_
  refine zi rfl ?_
  refine zo ?_
  refine zc ?_
  refine zc ?_
  refine za (by kernel_rfl) (fun _ => ?_)
  refine st (zd (v := .int .i64 (0)) rfl ?_)
  refine ze ?_
  refine zt ?_
  refine zP (fun mq σ wq => ∃ (k : Nat) (L9 : List Ev) (M9 : List Ev) (ρ : Env), mq = l.length - k ∧ σ = zQ ρ [(2, vl), (3, .int .i64 ((1 + q12 : Nat) : Int)), (9, .pointer (some ⟨b18, 0, none⟩)), (10, .pointer (some ⟨b21, 0, none⟩)), (11, .pointer (some ⟨b24, 0, none⟩)), (12, .pointer (some ⟨b27, 0, none⟩)), (13, .int .i64 ((k : Nat) : Int))] ∧ (k ≤ l.length) ∧ (Good (1 + q6) L9) ∧ ((M9.map idE).Nodup) ∧ (L9.length + M9.length ≤ 2 * k) ∧ Sep G W ((RefS b27 (1 + q6) L9) :: (SetO b24 (1 + q6) L9) :: (RBufO b21 (max 0 (min most 256)) M9) :: (BufO b18 (max 0 (min most 256)) (zu M9)) :: Rs) wq) ⟨0, [], [], _, rfl, zh ⟨rfl, rfl, rfl, rfl, rfl, rfl, rfl, trivial⟩, Nat.zero_le _, Good.nil, List.Pairwise.nil, (Nat.le_refl _), hS29⟩ ?_
  rintro m31 σ32 w30 ⟨k, L9, M9, ρl1, rfl, rfl, hkk, hG9, hM9, hB9, hS33⟩
  refine zc ?_
  refine zc ?_
  refine za (by kernel_rfl) (fun _ => ?_)
  refine st (zb (v := .int .i64 ((k : Nat) : Int)) rfl ?_)
  refine st (zb (v := vl) rfl ?_)
  refine st (zJ (n := l.length) Try.underlying22 rfl hl.sl ?_)
  refine st (zH (k := .i64) (a := ((k : Nat) : Int)) (b := ((l.length : Nat) : Int)) rfl rfl ?_)
  refine ze ?_
  cases hc34 : decide (((k : Nat) : Int) < ((l.length : Nat) : Int))
  ·skip
   have hc34r := hc34
   have hc34 := of_decide_eq_false hc34
   refine zi rfl ?_
   refine zO ?_
   refine zF ?_
   refine zc ?_
   have hsl9 := yD (l := M9)
   have hql9 := WW (n := (1 + q6)) (T := L9) (M := M9) (L := L9)
   refine zW (by kernel_rfl) ?_
   refine st (zb (v := .pointer (some ⟨b18, 0, none⟩)) rfl ?_)
   refine st (zb (v := .pointer (some ⟨b24, 0, none⟩)) rfl ?_)
   have hS35 := hS33.mv1
   obtain ⟨G36, hA38, hB39, hS40, hk41⟩ := hS35.lend
   obtain ⟨vv42, m43, R44, hb45, hv46, hr47⟩ := SetO.sh hA38
   have hsm48 : (zz (1 + q6) L9).length * 8 ≤ 140737488355328 := hv46.small
   have hS49 := hS40.mv2
   refine st (zj (f := 17) (vals := [.pointer (some ⟨b18, 0, none⟩), .pointer (some ⟨b24, 0, none⟩)]) (cap := []) rfl rfl Try.call17 (xH  hA38 hS49 ((by show InR (max 0 (min most 256)); omega)) (by first | exact hG1 | exact hG9) (by omega) (by omega)) ?_)
   rintro v50 w51 ⟨_, rfl, hS52⟩
   have hr53 := hS52.row (i := 0) rfl
   have hr53s : _ * 96 ≤ _ := hr53.2
   have hS54 := hk41 _ _ hS52
   refine st (zb (v := .pointer (some ⟨b21, 0, none⟩)) rfl ?_)
   refine st (zb (v := .pointer (some ⟨b27, 0, none⟩)) rfl ?_)
   have hS55 := hS54.mv3
   obtain ⟨G56, hA58, hB59, hS60, hk61⟩ := hS55.lend
   obtain ⟨vl62, hb63, hl64⟩ := RefS.sh hA58
   have hsm65 : L9.length * 96 ≤ 140737488355328 := hl64.small
   have hS66 := hS60.mv3
   refine st (zj (f := 28) (vals := [.pointer (some ⟨b21, 0, none⟩), .pointer (some ⟨b27, 0, none⟩)]) (cap := []) rfl rfl Try.call28 (WA  hA58 hS66 ((by show InR (max 0 (min most 256)); omega)) (by first | exact hG1 | exact hG9) (by omega) (by first | exact hM2 | exact hM9) (by omega)) ?_)
   rintro v67 w71 ⟨_, B268, rfl, hB269, hB370, hS72⟩
   have hr73 := hS72.row (i := 0) rfl
   have hr73s : _ * 96 ≤ _ := hr73.2
   have hS74 := hk61 _ _ hS72
   rw [← hB370] at hS74
   have hS75 : Sep G W ((RefS b27 (1 + q6) L9) :: (RowE (α := Ev) own 36 v67 (yn (1 + q6) L9 ((zu M9).filter (fun x => !zA L9 x)))) :: (RBufO b21 (max 0 (min most 256)) B268) :: (SetO b24 (1 + q6) L9) :: (RowE (α := Ev) own 36 v50 (yn (1 + q6) L9 ((zu M9).filter (fun x => !zA L9 x)))) :: (BufO b18 (max 0 (min most 256)) (zu B268)) :: Rs) w71 := hS74
   have hs29 := yD (l := B268)
   rw [hB370] at hs29
   have hS76 := hS75.mv4
   obtain ⟨G77, hA79, hB80, hS81, hk82⟩ := hS76.lend
   have hrd83 := RowE.rd hA79
   have hrd83s : _ * 96 ≤ _ := hrd83.small
   have hS84 := hS81.mv1
   obtain ⟨G85, hA87, hB88, hS89, hk90⟩ := hS84.lend
   have hrd91 := RowE.rd hA87
   have hrd91s : _ * 96 ≤ _ := hrd91.small
   refine st (zj (f := 19) (vals := [v50, v67]) (cap := []) rfl rfl Try.call19 (xo (a := (yn (1 + q6) L9 ((zu M9).filter (fun x => !zA L9 x)))) (va := v50) (b := (yn (1 + q6) L9 ((zu M9).filter (fun x => !zA L9 x)))) (vb := v67) (RdS.base hrd83 hB88) hrd91 hS89) ?_)
   rintro _ w92 ⟨rfl, hS93⟩
   have hS94 := hk90 _ _ hS93
   have hS95 := hk82 _ _ hS94
   have hkn96 : (decide ((yn (1 + q6) L9 ((zu M9).filter (fun x => !zA L9 x))) = (yn (1 + q6) L9 ((zu M9).filter (fun x => !zA L9 x))))) = true := decide_eq_true rfl
   rw [hkn96]
   refine st (zb (v := .bool true) rfl ?_)
   refine sty rfl rfl (zb (v := .pointer (some ⟨b18, 0, none⟩)) rfl ?_)
   have hS97 := hS95.mv5
   obtain ⟨G98, hA100, hB101, hS102, hk103⟩ := hS97.lend
   obtain ⟨vl104, hb105, hl106⟩ := BufO.sh hA100
   have hsm107 : (zu B268).length * 96 ≤ 140737488355328 := hl106.small
   refine sty rfl rfl (zj (f := 18) (vals := [.pointer (some ⟨b18, 0, none⟩)]) (cap := []) rfl rfl Try.call18 (xL  hA100 hS102) ?_)
   rintro _ w108 ⟨rfl, hS109⟩
   have hS110 := hk103 _ _ hS109
   refine sty rfl rfl (zb (v := .pointer (some ⟨b21, 0, none⟩)) rfl ?_)
   have hS111 := hS110.mv4
   obtain ⟨G112, hA114, hB115, hS116, hk117⟩ := hS111.lend
   obtain ⟨vl118, hb119, hl120⟩ := RBufO.sh hA114
   have hsm121 : B268.length * 96 ≤ 140737488355328 := hl120.small
   refine sty rfl rfl (zj (f := 32) (vals := [.pointer (some ⟨b21, 0, none⟩)]) (cap := []) rfl rfl Try.call32 (VQ  hA114 hS116) ?_)
   rintro _ w122 ⟨rfl, hS123⟩
   have hS124 := hk117 _ _ hS123
   refine sty rfl rfl (yq (k := .i64) (a := (((zu B268).length : Nat) : Int)) (b := ((B268.length : Nat) : Int)) rfl rfl ?_)
   have hkn125 : (decide ((((zu B268).length : Nat) : Int) = ((B268.length : Nat) : Int))) = true := (by rw [decide_eq_true_eq, yD])
   rw [hkn125]
   refine st (yw (v := .bool true) rfl rfl ?_)
   refine st (zb (v := .bool true) rfl ?_)
   refine sty rfl rfl (zj (f := 9) (vals := []) (cap := []) rfl rfl Try.call9 (xi  hS124) ?_)
   rintro _ w126 ⟨rfl, hS127⟩
   refine st (yw (v := .bool true) rfl rfl ?_)
   refine st (zd (v := .bool true) rfl ?_)
   refine ze ?_
   refine zw ?_
   refine zL Try.results5 (show _ = (.bool true : Value) from rfl) ?_
   have hS128 : Sep G W Rs w126 := hS127.sel 6 [] (Nat.le_add_left _ _) rfl rfl
   refine ⟨rfl, hS128⟩
  ·skip
   have hc34r := hc34
   have hc34 := of_decide_eq_true hc34
   refine zk rfl ?_
   refine zo ?_
   refine zc ?_
   refine zt ?_
   refine zc ?_
   refine zc ?_
   refine za (by kernel_rfl) (fun _ => ?_)
   refine st (zb (v := .int .i64 ((k : Nat) : Int)) rfl ?_)
   have h0129 : (0 : Int) < 4 := by omega
   have h0129m : k % 4 < 4 := Nat.mod_lt _ (by omega)
   refine st (Ya (r := ((k % 4 : Nat) : Int)) rfl rfl h0129 (Int.ofNat_tmod _ _).symm ?_)
   refine st (yq (k := .i64) (a := ((k % 4 : Nat) : Int)) (b := 3) rfl rfl ?_)
   refine ze ?_
   have hal9 := xN (n := (1 + q6)) (L := L9) (e := l.getD k default)
   refine Wf (fun σ wq => ∃ (L1 : List Ev) (ρ : Env), σ = zQ ρ [(2, vl), (3, .int .i64 ((1 + q12 : Nat) : Int)), (9, .pointer (some ⟨b18, 0, none⟩)), (10, .pointer (some ⟨b21, 0, none⟩)), (11, .pointer (some ⟨b24, 0, none⟩)), (12, .pointer (some ⟨b27, 0, none⟩)), (13, .int .i64 ((k : Nat) : Int))] ∧ (Good (1 + q6) L1) ∧ (L1.length ≤ L9.length + 1) ∧ Sep G W ((RefS b27 (1 + q6) L1) :: (SetO b24 (1 + q6) L1) :: (RBufO b21 (max 0 (min most 256)) M9) :: (BufO b18 (max 0 (min most 256)) (zu M9)) :: Rs) wq) ?_ ?_
   ·skip
    cases hc130 : decide (((k % 4 : Nat) : Int) = 3)
    ·skip
     have hc130 := of_decide_eq_false hc130
     refine zi rfl ?_
     refine zo ?_
     exact ⟨rfl, L9, _, zh ⟨(show _ = (vl : Value) from rfl), (show _ = (.int .i64 ((1 + q12 : Nat) : Int) : Value) from rfl), (show _ = (.pointer (some ⟨b18, 0, none⟩) : Value) from rfl), (show _ = (.pointer (some ⟨b21, 0, none⟩) : Value) from rfl), (show _ = (.pointer (some ⟨b24, 0, none⟩) : Value) from rfl), (show _ = (.pointer (some ⟨b27, 0, none⟩) : Value) from rfl), (show _ = (.int .i64 ((k : Nat) : Int) : Value) from rfl), trivial⟩, hG9, Nat.le_succ _, hS33⟩
    ·skip
     have hc130 := of_decide_eq_true hc130
     refine zk rfl ?_
     refine zc ?_
     refine za (by kernel_rfl) (fun _ => ?_)
     refine st (zb (v := .pointer (some ⟨b24, 0, none⟩)) rfl ?_)
     refine st (zb (v := vl) rfl ?_)
     refine st (zb (v := .int .i64 ((k : Nat) : Int)) rfl ?_)
     have hi131 : k < l.length := (by first | omega | (simp only [lens]; omega))
     refine st (zl (k := 10) (i := k) Try.underlying22 Try.sizeOf36 rfl hl.sl rfl hi131 ?_)
     have hi133 : k < l.length := (by first | omega | (simp only [lens]; omega))
     obtain ⟨hce132, hde132_0, hoke132⟩ := hl.ev hi133
     rw [← zm default hi133] at hce132 hde132_0 hoke132
     have hsm134 : ((l.getD k default).deps).length * 8 ≤ 140737488355328 := hde132_0.small
     have hcw135 := hS33.cells hce132 (hl.foot (ne_of_lt hi133))
     refine st (zr (k := 10) Try.isAgg36 Try.sizeOf36 rfl rfl hcw135 ?_)
     have hS136 := hS33.mv1
     refine st (zj (f := 13) (vals := [.pointer (some ⟨b24, 0, none⟩), .agg ((l.getD k default).cells (zT W (sb vl) (so vl + k * 10 + 3))).toArray]) (cap := []) rfl rfl Try.call13 (Ye (e := (l.getD k default)) hde132_0 hoke132 hS136 ((by omega)) (by first | exact hG9.len | exact hGT9.len)) ?_)
     rintro _ w137 ⟨rfl, hS138⟩
     refine ze ?_
     refine za (by kernel_rfl) (fun _ => ?_)
     refine st (zb (v := .pointer (some ⟨b27, 0, none⟩)) rfl ?_)
     refine st (zb (v := vl) rfl ?_)
     refine st (zb (v := .int .i64 ((k : Nat) : Int)) rfl ?_)
     have hi139 : k < l.length := (by first | omega | (simp only [lens]; omega))
     refine st (zl (k := 10) (i := k) Try.underlying22 Try.sizeOf36 rfl hl.sl rfl hi139 ?_)
     have hcw141 := hS138.cells hce132 (hl.foot (ne_of_lt hi133))
     refine st (zr (k := 10) Try.isAgg36 Try.sizeOf36 rfl rfl hcw141 ?_)
     have hS142 := hS138.mv1
     refine st (zj (f := 22) (vals := [.pointer (some ⟨b27, 0, none⟩), .agg ((l.getD k default).cells (zT W (sb vl) (so vl + k * 10 + 3))).toArray]) (cap := []) rfl rfl Try.call22 (YE (e := (l.getD k default)) hde132_0 hoke132 hS142 (by first | exact hG9 | exact hGT9) ((by omega)) ((by omega))) ?_)
     rintro _ w143 ⟨rfl, hS144⟩
     refine ze ?_
     exact ⟨rfl, (addL (1 + q6) L9 (l.getD k default)), _, zh ⟨(show _ = (vl : Value) from rfl), (show _ = (.int .i64 ((1 + q12 : Nat) : Int) : Value) from rfl), (show _ = (.pointer (some ⟨b18, 0, none⟩) : Value) from rfl), (show _ = (.pointer (some ⟨b21, 0, none⟩) : Value) from rfl), (show _ = (.pointer (some ⟨b24, 0, none⟩) : Value) from rfl), (show _ = (.pointer (some ⟨b27, 0, none⟩) : Value) from rfl), (show _ = (.int .i64 ((k : Nat) : Int) : Value) from rfl), trivial⟩, hG9.addL, hal9, hS144⟩
   rintro _ w145 ⟨L1, ρj1, rfl, hG1, hB1, hS146⟩
   refine zc ?_
   refine za (by kernel_rfl) (fun _ => ?_)
   refine st (zb (v := vl) rfl ?_)
   refine st (zb (v := .int .i64 ((k : Nat) : Int)) rfl ?_)
   have hi147 : k < l.length := (by first | omega | (simp only [lens]; omega))
   refine st (zl (k := 10) (i := k) Try.underlying22 Try.sizeOf36 rfl hl.sl rfl hi147 ?_)
   have hi149 : k < l.length := (by first | omega | (simp only [lens]; omega))
   obtain ⟨hce148, hde148_0, hoke148⟩ := hl.ev hi149
   rw [← zm default hi149] at hce148 hde148_0 hoke148
   have hsm150 : ((l.getD k default).deps).length * 8 ≤ 140737488355328 := hde148_0.small
   have hcw151 := hS146.cells hce148 (hl.foot (ne_of_lt hi149))
   refine st (zr (k := 10) Try.isAgg36 Try.sizeOf36 rfl rfl hcw151 ?_)
   refine st (zj (f := 23) (vals := [.agg ((l.getD k default).cells (zT W (sb vl) (so vl + k * 10 + 3))).toArray]) (cap := []) rfl rfl Try.call23 (yJ (e := (l.getD k default)) hde148_0 hoke148 hS146) ?_)
   rintro _ w153 ⟨v152, rfl, hS154⟩
   have hr155 := hS154.row (i := 0) rfl
   have hr155s : _ * 8 ≤ _ := hr155.2
   refine st (ye Try.zeroValue36 ?_)
   intro w158 b157 hn156
   have hS159 := hS154.new hn156
   refine stn (zY (v := .agg ((l.getD k default).cells v152).toArray) (c' := ((l.getD k default).cells v152).toArray) Try.sizeOf36 rfl rfl (hS159.blk (i := 0) rfl) (yU ⟨rfl, rfl, rfl, hr155.1.one, rfl, rfl, rfl, rfl, rfl, rfl, trivial⟩) (Nat.le_of_ble_eq_true rfl) rfl ?_)
   intro w160 hp161
   have hS162 := hS159.pt0 hp161
   refine ze ?_
   refine zc ?_
   refine zc ?_
   have hS163 := hS162.mv1
   obtain ⟨G164, hA166, hB167, hS168, hk169⟩ := hS163.lend
   have hrd170 := RowE.rd hA166
   have hrd170s : _ * 8 ≤ _ := hrd170.small
   refine zM ((fun pp0 pp1 pp2 pp3 pp4 => WF [fun vals wq => Sep G164 w160 (pp0 :: pp1 :: pp2 :: pp3 :: (BufO b18 (max 0 (min most 256)) (zu M9)) :: Rs) wq, fun vals wq => (vals 2 = (.bool ((ya (max 0 (min most 256)) (zu M9) (l.getD k default))) : Value)) ∧ Sep G164 w160 (pp4 :: pp0 :: pp1 :: pp2 :: pp3 :: Rs) wq, fun vals wq => (vals 2 = (.bool ((ya (max 0 (min most 256)) (zu M9) (l.getD k default))) : Value)) ∧ (vals 8 = (.bool ((ya (max 0 (min most 256)) M9 (l.getD k default))) : Value)) ∧ Sep G164 w160 ((RBufO b21 (max 0 (min most 256)) (xn (max 0 (min most 256)) M9 (l.getD k default))) :: pp4 :: pp0 :: pp1 :: pp2 :: Rs) wq]) (Blk b157 ((l.getD k default).cells v152).toArray 36) (RefS b27 (1 + q6) L1) (SetO b24 (1 + q6) L1) (RBufO b21 (max 0 (min most 256)) M9) (BufO b18 (max 0 (min most 256)) (yF (max 0 (min most 256)) (zu M9) (l.getD k default)))) (AF [Vl 0 (.pointer (some ⟨b18, 0, none⟩)), Vl 1 (.agg ((l.getD k default).cells v152).toArray), fun _ => True, Vl 3 (.pointer (some ⟨b21, 0, none⟩)), Vl 4 (vl), Vl 5 (.int .i64 ((k : Nat) : Int)), Vl 6 (.pointer (some ⟨sb vl, so vl + k * 10, none⟩)), Vl 7 (.agg ((l.getD k default).cells (zT w160 (sb vl) (so vl + k * 10 + 3))).toArray), fun _ => True, Vl 9 (.bool false)]) [[], [], [0, 1], [], [], [], [4, 5], [4, 5, 6], [0, 1, 2, 3, 4, 5, 6, 7], [0, 1, 2, 3, 4, 5, 6, 7, 8]] [2, 8] [(0, 0), (0, 0), (0, 0), (0, 1), (0, 1), (0, 1), (0, 1), (0, 1), (1, 1), (2, 2)] (by kernel_rfl) (by kernel_rfl) (by kernel_rfl) rfl (by kernel_rfl) (by kernel_rfl) (fun _ h1 h2 h3 h4 _ => hS168.same h1 h2 h3 h4) ?_ (yc ⟨dA, dA, dT, dA, dA, dA, dA, dA, dT, dA, trivial⟩) ⟨?_, ?_, ?_, ?_, ?_, ?_, ?_, ?_, ?_, ?_, trivial⟩ ?_
   ·intro k vals vals' w hv h
    have e : ∀ j ∈ ([2, 8] : List Nat), vals' j = vals j := hv
    match k, h with
    | 0, h => exact h
    | 1, h => exact (by simpa only [WF, List.getElem?_cons_zero, List.getElem?_cons_succ, e 2 (by decide)] using h)
    | 2, h => exact (by simpa only [WF, List.getElem?_cons_zero, List.getElem?_cons_succ, e 2 (by decide), e 8 (by decide)] using h)
    | _ + 3, _ => trivial
   ·intro k262 vals w263 h266 h267 hW265 hA264
    refine obl rfl ?_
    exact zb (v := .pointer (some ⟨b18, 0, none⟩)) rfl (fun vals' hv _ => ⟨rfl, hv⟩)
   ·intro k268 vals w269 h272 h273 hW271 hA270
    obtain rfl : k268 = 0 := Nat.le_antisymm h273 h272
    have hS274 : Sep _ _ _ _ := hW271
    refine obl rfl ?_
    exact zr (k := 10) Try.isAgg36 Try.sizeOf36 rfl rfl (CellsAt.all (hS274.blk (i := 0) rfl)) (fun vals' hv _ => ⟨rfl, hv⟩)
   ·intro k184 vals w185 h188 h189 hW187 hA186
    obtain rfl : k184 = 0 := Nat.le_antisymm h189 h188
    have hS190 : Sep _ _ _ _ := hW187
    have e191 := hA186 0 (by decide)
    have e192 := hA186 1 (by decide)
    refine obl rfl ?_
    have hS193 := hS190.mv4
    refine (zj (f := 14) (vals := [.pointer (some ⟨b18, 0, none⟩), .agg ((l.getD k default).cells v152).toArray]) (cap := []) rfl (xc ⟨e191, e192, trivial⟩) Try.call14 (xk (e := (l.getD k default)) hrd170 hoke148 hS193 ((by show InR (max 0 (min most 256)); omega)) ((yG hM9)) ((by rw [yD]; omega))) ?_)
    rintro _ w194 ⟨rfl, hS195⟩
    intro vals' hv hv'
    refine ⟨?_, trivial⟩
    show (vals' 2 = (.bool ((ya (max 0 (min most 256)) (zu M9) (l.getD k default))) : Value)) ∧ Sep G164 w160 ((BufO b18 (max 0 (min most 256)) (yF (max 0 (min most 256)) (zu M9) (l.getD k default))) :: (Blk b157 ((l.getD k default).cells v152).toArray 36) :: (RefS b27 (1 + q6) L1) :: (SetO b24 (1 + q6) L1) :: (RBufO b21 (max 0 (min most 256)) M9) :: Rs) w194
    exact ⟨hv, hS195⟩
   ·intro k275 vals w276 h279 h280 hW278 hA277
    refine obl rfl ?_
    exact zb (v := .pointer (some ⟨b21, 0, none⟩)) rfl (fun vals' hv _ => ⟨rfl, hv⟩)
   ·intro k281 vals w282 h285 h286 hW284 hA283
    refine obl rfl ?_
    exact zb (v := vl) rfl (fun vals' hv _ => ⟨rfl, hv⟩)
   ·intro k287 vals w288 h291 h292 hW290 hA289
    refine obl rfl ?_
    exact zb (v := .int .i64 ((k : Nat) : Int)) rfl (fun vals' hv _ => ⟨rfl, hv⟩)
   ·intro k293 vals w294 h297 h298 hW296 hA295
    have hkk : k293 = 0 ∨ k293 = 1 := by have h1 : 0 ≤ k293 := h297; have h2 : k293 ≤ 1 := h298; omega
    rcases hkk with rfl | rfl
    ·skip
     have hS299 : Sep _ _ _ _ := hW296
     have e300 := hA295 4 (by decide)
     have e301 := hA295 5 (by decide)
     refine obl rfl ?_
     have hi302 : k < l.length := (by first | omega | (simp only [lens]; omega))
     exact zl (k := 10) (i := k) Try.underlying22 Try.sizeOf36 e300 (RdS.base hl hB167).sl e301 hi302 (fun vals' hv _ => ⟨rfl, hv⟩)
    ·skip
     obtain ⟨he196, hS303⟩ := hW296
     have e304 := hA295 4 (by decide)
     have e305 := hA295 5 (by decide)
     refine obl rfl ?_
     have hi306 : k < l.length := (by first | omega | (simp only [lens]; omega))
     exact zl (k := 10) (i := k) Try.underlying22 Try.sizeOf36 e304 (RdS.base hl hB167).sl e305 hi306 (fun vals' hv _ => ⟨rfl, hv⟩)
   ·intro k307 vals w308 h311 h312 hW310 hA309
    have hkk : k307 = 0 ∨ k307 = 1 := by have h1 : 0 ≤ k307 := h311; have h2 : k307 ≤ 1 := h312; omega
    rcases hkk with rfl | rfl
    ·skip
     have hS313 : Sep _ _ _ _ := hW310
     have e314 := hA309 6 (by decide)
     refine obl rfl ?_
     have hi316 : k < l.length := (by first | omega | (simp only [lens]; omega))
     obtain ⟨hce315, hde315_0, hoke315⟩ := (RdS.base hl hB167).ev hi316
     rw [← zm default hi316] at hce315 hde315_0 hoke315
     have hsm317 : ((l.getD k default).deps).length * 8 ≤ 140737488355328 := hde315_0.small
     have hcw318 := hS313.cells hce315 ((RdS.base hl hB167).foot (ne_of_lt hi316))
     exact zr (k := 10) Try.isAgg36 Try.sizeOf36 rfl e314 hcw318 (fun vals' hv _ => ⟨rfl, hv⟩)
    ·skip
     obtain ⟨he196, hS319⟩ := hW310
     have e320 := hA309 6 (by decide)
     refine obl rfl ?_
     have hi322 : k < l.length := (by first | omega | (simp only [lens]; omega))
     obtain ⟨hce321, hde321_0, hoke321⟩ := (RdS.base hl hB167).ev hi322
     rw [← zm default hi322] at hce321 hde321_0 hoke321
     have hsm323 : ((l.getD k default).deps).length * 8 ≤ 140737488355328 := hde321_0.small
     have hcw324 := hS319.cells hce321 ((RdS.base hl hB167).foot (ne_of_lt hi322))
     exact zr (k := 10) Try.isAgg36 Try.sizeOf36 rfl e320 hcw324 (fun vals' hv _ => ⟨rfl, hv⟩)
   ·intro k237 vals w238 h241 h242 hW240 hA239
    obtain rfl : k237 = 1 := Nat.le_antisymm h242 h241
    obtain ⟨he196, hS243⟩ := hW240
    have e244 := hA239 3 (by decide)
    have e245 := hA239 7 (by decide)
    refine obl rfl ?_
    have hi247 : k < l.length := (by first | omega | (simp only [lens]; omega))
    obtain ⟨hce246, hde246_0, hoke246⟩ := (RdS.base hl hB167).ev hi247
    rw [← zm default hi247] at hce246 hde246_0 hoke246
    have hsm248 : ((l.getD k default).deps).length * 8 ≤ 140737488355328 := hde246_0.small
    have hcw249 := hS243.cells hce246 ((RdS.base hl hB167).foot (ne_of_lt hi247))
    have hS250 := hS243.mv4
    refine (zj (f := 24) (vals := [.pointer (some ⟨b21, 0, none⟩), .agg ((l.getD k default).cells (zT w160 (sb vl) (so vl + k * 10 + 3))).toArray]) (cap := []) rfl (xc ⟨e244, e245, trivial⟩) Try.call24 (QJ (e := (l.getD k default)) hde246_0 hoke246 hS250 ((by show InR (max 0 (min most 256)); omega)) ((by omega))) ?_)
    rintro _ w251 ⟨rfl, hS252⟩
    intro vals' hv hv'
    refine ⟨?_, trivial⟩
    show (vals' 2 = (.bool ((ya (max 0 (min most 256)) (zu M9) (l.getD k default))) : Value)) ∧ (vals' 8 = (.bool ((ya (max 0 (min most 256)) M9 (l.getD k default))) : Value)) ∧ Sep G164 w160 ((RBufO b21 (max 0 (min most 256)) (xn (max 0 (min most 256)) M9 (l.getD k default))) :: (BufO b18 (max 0 (min most 256)) (yF (max 0 (min most 256)) (zu M9) (l.getD k default))) :: (Blk b157 ((l.getD k default).cells v152).toArray 36) :: (RefS b27 (1 + q6) L1) :: (SetO b24 (1 + q6) L1) :: Rs) w251
    exact ⟨(by rw [hv' 2 (by decide)]; exact he196), hv, hS252⟩
   ·intro k325 vals w326 h329 h330 hW328 hA327
    obtain rfl : k325 = 2 := Nat.le_antisymm h330 h329
    obtain ⟨he196, he253, hS331⟩ := hW328
    refine obl rfl ?_
    have hl332 : (!((ya (max 0 (min most 256)) (zu M9) (l.getD k default)) == (ya (max 0 (min most 256)) M9 (l.getD k default)))) = false := (by rw [YK]; simp)
    exact Uh (a := (ya (max 0 (min most 256)) (zu M9) (l.getD k default))) (b := (ya (max 0 (min most 256)) M9 (l.getD k default))) Try.underlying4 he196 he253 (fun vals' hv _ => ⟨rfl, hv.trans (congrArg Value.bool hl332)⟩)
   intro vals w333 hW334 hA335
   obtain ⟨he196, he253, hS336⟩ := hW334
   have e337 := hA335 9 (by decide)
   refine yb (kv := [(2, vl), (3, .int .i64 ((1 + q12 : Nat) : Int)), (9, .pointer (some ⟨b18, 0, none⟩)), (10, .pointer (some ⟨b21, 0, none⟩)), (11, .pointer (some ⟨b24, 0, none⟩)), (12, .pointer (some ⟨b27, 0, none⟩)), (13, .int .i64 ((k : Nat) : Int)), (62, vl), (63, .int .i64 ((k : Nat) : Int)), (64, .pointer (some ⟨sb vl, so vl + k * 10, none⟩)), (65, .agg ((l.getD k default).cells (zT W (sb vl) (so vl + k * 10 + 3))).toArray), (66, .agg ((l.getD k default).cells v152).toArray), (14, .pointer (some ⟨b157, 0, none⟩)), (76, .bool false)]) ⟨rfl, rfl, rfl, rfl, rfl, rfl, rfl, rfl, rfl, rfl, rfl, rfl, rfl, (by exact e337), trivial⟩ (fun ρw333 => ?_)
   refine ze ?_
   refine zi rfl ?_
   refine zo ?_
   refine zc ?_
   have hS338 := hk169 _ _ hS336
   rw [Vi] at hS338
   have hS339 : Sep G W ((RowE (α := Int) own 3 v152 ((l.getD k default).deps)) :: (RBufO b21 (max 0 (min most 256)) (xn (max 0 (min most 256)) M9 (l.getD k default))) :: (BufO b18 (max 0 (min most 256)) (zu (xn (max 0 (min most 256)) M9 (l.getD k default)))) :: (Blk b157 ((l.getD k default).cells v152).toArray 36) :: (RefS b27 (1 + q6) L1) :: (SetO b24 (1 + q6) L1) :: Rs) w333 := hS338
   refine za (by kernel_rfl) (fun _ => ?_)
   refine st (yB rfl ?_)
   refine st (zg (v := v152) Try.isAgg34 rfl (zf (hS339.blk (i := 3) rfl) rfl) ?_)
   obtain ⟨f340, hm341, hS342⟩ := hS339.toML
   refine st (zj (f := 25) (vals := [v152]) (cap := []) rfl rfl Try.call25 (Ys  hm341 hS342) ?_)
   rintro _ w343 ⟨rfl, hS344⟩
   refine ze ?_
   refine zc ?_
   refine zc ?_
   refine za (by kernel_rfl) (fun _ => ?_)
   refine st (zb (v := .int .i64 ((k : Nat) : Int)) rfl ?_)
   have h0345 : (0 : Int) < 29 := by omega
   have h0345m : k % 29 < 29 := Nat.mod_lt _ (by omega)
   refine st (Ya (r := ((k % 29 : Nat) : Int)) rfl rfl h0345 (Int.ofNat_tmod _ _).symm ?_)
   refine st (yq (k := .i64) (a := ((k % 29 : Nat) : Int)) (b := 28) rfl rfl ?_)
   refine ze ?_
   have hrl9 := Uo (m := (max 0 (min most 256))) (M := M9) (e := l.getD k default)
   have hri9 := UB (m := (max 0 (min most 256))) (M := M9) (e := l.getD k default) hM9
   refine Wf (fun σ wq => ∃ (M2 : List Ev) (ρ : Env), σ = zQ ρ [(2, vl), (3, .int .i64 ((1 + q12 : Nat) : Int)), (9, .pointer (some ⟨b18, 0, none⟩)), (10, .pointer (some ⟨b21, 0, none⟩)), (11, .pointer (some ⟨b24, 0, none⟩)), (12, .pointer (some ⟨b27, 0, none⟩)), (13, .int .i64 ((k : Nat) : Int)), (14, .pointer (some ⟨b157, 0, none⟩))] ∧ ((M2.map idE).Nodup) ∧ (M2.length ≤ M9.length + 1) ∧ Sep G W ((RBufO b21 (max 0 (min most 256)) M2) :: (BufO b18 (max 0 (min most 256)) (zu M2)) :: (RefS b27 (1 + q6) L1) :: (SetO b24 (1 + q6) L1) :: Rs) wq) ?_ ?_
   ·skip
    cases hc346 : decide (((k % 29 : Nat) : Int) = 28)
    ·skip
     have hc346 := of_decide_eq_false hc346
     refine zi rfl ?_
     refine zo ?_
     have hS347 : Sep G W ((RBufO b21 (max 0 (min most 256)) (xn (max 0 (min most 256)) M9 (l.getD k default))) :: (BufO b18 (max 0 (min most 256)) (zu (xn (max 0 (min most 256)) M9 (l.getD k default)))) :: (RefS b27 (1 + q6) L1) :: (SetO b24 (1 + q6) L1) :: Rs) w343 := hS344.sel 6 [1, 2, 4, 5] (Nat.le_add_left _ _) rfl rfl
     exact ⟨rfl, (xn (max 0 (min most 256)) M9 (l.getD k default)), _, zh ⟨(show _ = (vl : Value) from rfl), (show _ = (.int .i64 ((1 + q12 : Nat) : Int) : Value) from rfl), (show _ = (.pointer (some ⟨b18, 0, none⟩) : Value) from rfl), (show _ = (.pointer (some ⟨b21, 0, none⟩) : Value) from rfl), (show _ = (.pointer (some ⟨b24, 0, none⟩) : Value) from rfl), (show _ = (.pointer (some ⟨b27, 0, none⟩) : Value) from rfl), (show _ = (.int .i64 ((k : Nat) : Int) : Value) from rfl), (show _ = (.pointer (some ⟨b157, 0, none⟩) : Value) from rfl), trivial⟩, hri9, hrl9, hS347⟩
    ·skip
     have hc346 := of_decide_eq_true hc346
     refine zk rfl ?_
     refine zc ?_
     refine za (by kernel_rfl) (fun _ => ?_)
     refine st (zb (v := .pointer (some ⟨b18, 0, none⟩)) rfl ?_)
     have hS348 := hS344.mv2
     refine st (zj (f := 26) (vals := [.pointer (some ⟨b18, 0, none⟩)]) (cap := []) rfl rfl Try.call26 (WT  hS348) ?_)
     rintro _ w349 ⟨rfl, hS350⟩
     refine ze ?_
     refine za (by kernel_rfl) (fun _ => ?_)
     refine st (zb (v := .pointer (some ⟨b21, 0, none⟩)) rfl ?_)
     have hS351 := hS350.mv2
     refine st (zj (f := 27) (vals := [.pointer (some ⟨b21, 0, none⟩)]) (cap := []) rfl rfl Try.call27 (UO  hS351) ?_)
     rintro _ w352 ⟨rfl, hS353⟩
     refine ze ?_
     have hS354 : Sep G W ((RBufO b21 (max 0 (min most 256)) ([] : List Ev)) :: (BufO b18 (max 0 (min most 256)) ([] : List Ev)) :: (RefS b27 (1 + q6) L1) :: (SetO b24 (1 + q6) L1) :: Rs) w352 := hS353.sel 6 [0, 1, 4, 5] (Nat.le_add_left _ _) rfl rfl
     exact ⟨rfl, [], _, zh ⟨(show _ = (vl : Value) from rfl), (show _ = (.int .i64 ((1 + q12 : Nat) : Int) : Value) from rfl), (show _ = (.pointer (some ⟨b18, 0, none⟩) : Value) from rfl), (show _ = (.pointer (some ⟨b21, 0, none⟩) : Value) from rfl), (show _ = (.pointer (some ⟨b24, 0, none⟩) : Value) from rfl), (show _ = (.pointer (some ⟨b27, 0, none⟩) : Value) from rfl), (show _ = (.int .i64 ((k : Nat) : Int) : Value) from rfl), (show _ = (.pointer (some ⟨b157, 0, none⟩) : Value) from rfl), trivial⟩, List.Pairwise.nil, Nat.zero_le _, hS354⟩
   rintro _ w355 ⟨M2, ρj2, rfl, hM2, hB2, hS356⟩
   refine zc ?_
   refine zc ?_
   refine za (by kernel_rfl) (fun _ => ?_)
   refine st (zb (v := .int .i64 ((k : Nat) : Int)) rfl ?_)
   refine st (zb (v := .int .i64 ((1 + q12 : Nat) : Int)) rfl ?_)
   have h0357 : (0 : Int) < ((1 + q12 : Nat) : Int) := by omega
   have h0357m : k % (1 + q12) < (1 + q12) := Nat.mod_lt _ (by omega)
   refine st (Ya (r := ((k % (1 + q12) : Nat) : Int)) rfl rfl h0357 (Int.ofNat_tmod _ _).symm ?_)
   refine st (yq (k := .i64) (a := ((k % (1 + q12) : Nat) : Int)) (b := 0) rfl rfl ?_)
   refine ze ?_
   refine Wf (fun σ wq => ∃ (L3 : List Ev) (M3 : List Ev) (ρ : Env), σ = zQ ρ [(2, vl), (3, .int .i64 ((1 + q12 : Nat) : Int)), (9, .pointer (some ⟨b18, 0, none⟩)), (10, .pointer (some ⟨b21, 0, none⟩)), (11, .pointer (some ⟨b24, 0, none⟩)), (12, .pointer (some ⟨b27, 0, none⟩)), (13, .int .i64 ((k : Nat) : Int))] ∧ (Good (1 + q6) L3) ∧ ((M3.map idE).Nodup) ∧ (L3.length + M3.length ≤ L1.length + M2.length) ∧ Sep G W ((RBufO b21 (max 0 (min most 256)) M3) :: (BufO b18 (max 0 (min most 256)) (zu M3)) :: (RefS b27 (1 + q6) L3) :: (SetO b24 (1 + q6) L3) :: Rs) wq) ?_ ?_
   ·skip
    cases hc358 : decide (((k % (1 + q12) : Nat) : Int) = 0)
    ·skip
     have hc358 := of_decide_eq_false hc358
     refine zi rfl ?_
     refine zo ?_
     exact ⟨rfl, L1, M2, _, zh ⟨(show _ = (vl : Value) from rfl), (show _ = (.int .i64 ((1 + q12 : Nat) : Int) : Value) from rfl), (show _ = (.pointer (some ⟨b18, 0, none⟩) : Value) from rfl), (show _ = (.pointer (some ⟨b21, 0, none⟩) : Value) from rfl), (show _ = (.pointer (some ⟨b24, 0, none⟩) : Value) from rfl), (show _ = (.pointer (some ⟨b27, 0, none⟩) : Value) from rfl), (show _ = (.int .i64 ((k : Nat) : Int) : Value) from rfl), trivial⟩, hG1, hM2, Nat.le_refl _, hS356⟩
    ·skip
     have hc358 := of_decide_eq_true hc358
     refine zk rfl ?_
     refine zc ?_
     have hsl9 := yD (l := M2)
     have hql9 := WW (n := (1 + q6)) (T := L1) (M := M2) (L := L1)
     refine za (by kernel_rfl) (fun _ => ?_)
     refine st (zb (v := .pointer (some ⟨b18, 0, none⟩)) rfl ?_)
     refine st (zb (v := .pointer (some ⟨b24, 0, none⟩)) rfl ?_)
     have hS359 := hS356.mv3
     obtain ⟨G360, hA362, hB363, hS364, hk365⟩ := hS359.lend
     obtain ⟨vv366, m367, R368, hb369, hv370, hr371⟩ := SetO.sh hA362
     have hsm372 : (zz (1 + q6) L1).length * 8 ≤ 140737488355328 := hv370.small
     have hS373 := hS364.mv1
     refine st (zj (f := 17) (vals := [.pointer (some ⟨b18, 0, none⟩), .pointer (some ⟨b24, 0, none⟩)]) (cap := []) rfl rfl Try.call17 (xH  hA362 hS373 ((by show InR (max 0 (min most 256)); omega)) (by first | exact hG1 | exact hG9) (by omega) (by omega)) ?_)
     rintro v374 w375 ⟨_, rfl, hS376⟩
     have hr377 := hS376.row (i := 0) rfl
     have hr377s : _ * 96 ≤ _ := hr377.2
     have hS378 := hk365 _ _ hS376
     refine st (zd (v := v374) rfl ?_)
     refine ze ?_
     refine zc ?_
     refine za (by kernel_rfl) (fun _ => ?_)
     refine st (zb (v := .pointer (some ⟨b21, 0, none⟩)) rfl ?_)
     refine st (zb (v := .pointer (some ⟨b27, 0, none⟩)) rfl ?_)
     have hS379 := hS378.mv4
     obtain ⟨G380, hA382, hB383, hS384, hk385⟩ := hS379.lend
     obtain ⟨vl386, hb387, hl388⟩ := RefS.sh hA382
     have hsm389 : L1.length * 96 ≤ 140737488355328 := hl388.small
     have hS390 := hS384.mv3
     refine st (zj (f := 28) (vals := [.pointer (some ⟨b21, 0, none⟩), .pointer (some ⟨b27, 0, none⟩)]) (cap := []) rfl rfl Try.call28 (WA  hA382 hS390 ((by show InR (max 0 (min most 256)); omega)) (by first | exact hG1 | exact hG9) (by omega) (by first | exact hM2 | exact hM9) (by omega)) ?_)
     rintro v391 w395 ⟨_, B2392, rfl, hB2393, hB3394, hS396⟩
     have hr397 := hS396.row (i := 0) rfl
     have hr397s : _ * 96 ≤ _ := hr397.2
     have hS398 := hk385 _ _ hS396
     refine st (zd (v := v391) rfl ?_)
     refine ze ?_
     refine zc ?_
     refine zc ?_
     rw [← hB3394] at hS398
     have hS399 : Sep G W ((RefS b27 (1 + q6) L1) :: (RowE (α := Ev) own 36 v391 (yn (1 + q6) L1 ((zu M2).filter (fun x => !zA L1 x)))) :: (RBufO b21 (max 0 (min most 256)) B2392) :: (SetO b24 (1 + q6) L1) :: (RowE (α := Ev) own 36 v374 (yn (1 + q6) L1 ((zu M2).filter (fun x => !zA L1 x)))) :: (BufO b18 (max 0 (min most 256)) (zu B2392)) :: Rs) w395 := hS398
     have hs29 := yD (l := B2392)
     rw [hB3394] at hs29
     refine zW (by kernel_rfl) ?_
     refine st (zb (v := v374) rfl ?_)
     refine st (zb (v := v391) rfl ?_)
     have hS400 := hS399.mv4
     obtain ⟨G401, hA403, hB404, hS405, hk406⟩ := hS400.lend
     have hrd407 := RowE.rd hA403
     have hrd407s : _ * 96 ≤ _ := hrd407.small
     have hS408 := hS405.mv1
     obtain ⟨G409, hA411, hB412, hS413, hk414⟩ := hS408.lend
     have hrd415 := RowE.rd hA411
     have hrd415s : _ * 96 ≤ _ := hrd415.small
     refine st (zj (f := 19) (vals := [v374, v391]) (cap := []) rfl rfl Try.call19 (xo (a := (yn (1 + q6) L1 ((zu M2).filter (fun x => !zA L1 x)))) (va := v374) (b := (yn (1 + q6) L1 ((zu M2).filter (fun x => !zA L1 x)))) (vb := v391) (RdS.base hrd407 hB412) hrd415 hS413) ?_)
     rintro _ w416 ⟨rfl, hS417⟩
     have hS418 := hk414 _ _ hS417
     have hS419 := hk406 _ _ hS418
     have hkn420 : (decide ((yn (1 + q6) L1 ((zu M2).filter (fun x => !zA L1 x))) = (yn (1 + q6) L1 ((zu M2).filter (fun x => !zA L1 x))))) = true := decide_eq_true rfl
     rw [hkn420]
     refine st (yA (a := true) rfl ?_)
     refine st (zb (v := .bool false) rfl ?_)
     refine sty rfl rfl (zb (v := .pointer (some ⟨b24, 0, none⟩)) rfl ?_)
     have hS421 := hS419.mv4
     obtain ⟨G422, hA424, hB425, hS426, hk427⟩ := hS421.lend
     obtain ⟨vv428, m429, R430, hb431, hv432, hr433⟩ := SetO.sh hA424
     have hsm434 : (zz (1 + q6) L1).length * 8 ≤ 140737488355328 := hv432.small
     refine sty rfl rfl (zj (f := 29) (vals := [.pointer (some ⟨b24, 0, none⟩)]) (cap := []) rfl rfl Try.call29 (Jf  hA424 hS426 (hG1.ids) (hG1.srt) ((by omega))) ?_)
     rintro v435 w436 ⟨_, rfl, hS437⟩
     have hr438 := hS437.row (i := 0) rfl
     have hr438s : _ * 96 ≤ _ := hr438.2
     have hS439 := hk427 _ _ hS437
     refine sty rfl rfl (zb (v := .pointer (some ⟨b27, 0, none⟩)) rfl ?_)
     have hS440 := hS439.mv4
     obtain ⟨G441, hA443, hB444, hS445, hk446⟩ := hS440.lend
     obtain ⟨vl447, hb448, hl449⟩ := RefS.sh hA443
     have hsm450 : L1.length * 96 ≤ 140737488355328 := hl449.small
     refine sty rfl rfl (zj (f := 30) (vals := [.pointer (some ⟨b27, 0, none⟩)]) (cap := []) rfl rfl Try.call30 (Jg  hA443 hS445) ?_)
     rintro v451 w452 ⟨_, rfl, hS453⟩
     have hr454 := hS453.row (i := 0) rfl
     have hr454s : _ * 96 ≤ _ := hr454.2
     have hS455 := hk446 _ _ hS453
     have hS456 := hS455.mv3
     obtain ⟨G457, hA459, hB460, hS461, hk462⟩ := hS456.lend
     have hrd463 := RowE.rd hA459
     have hrd463s : _ * 96 ≤ _ := hrd463.small
     have hS464 := hS461.mv1
     obtain ⟨G465, hA467, hB468, hS469, hk470⟩ := hS464.lend
     have hrd471 := RowE.rd hA467
     have hrd471s : _ * 96 ≤ _ := hrd471.small
     refine sty rfl rfl (zj (f := 19) (vals := [v435, v451]) (cap := []) rfl rfl Try.call19 (xo (a := L1) (va := v435) (b := L1) (vb := v451) (RdS.base hrd463 hB468) hrd471 hS469) ?_)
     rintro _ w472 ⟨rfl, hS473⟩
     have hS474 := hk470 _ _ hS473
     have hS475 := hk462 _ _ hS474
     have hkn476 : (decide (L1 = L1)) = true := decide_eq_true rfl
     rw [hkn476]
     refine sty rfl rfl (yA (a := true) rfl ?_)
     refine st (yo (v := .bool false) rfl rfl ?_)
     refine ze ?_
     refine zi rfl ?_
     refine zo ?_
     refine zc ?_
     refine za (by kernel_rfl) (fun _ => ?_)
     refine st (zb (v := v374) rfl ?_)
     have hS477 := hS475.mv4
     obtain ⟨f478, hm479, hS480⟩ := hS477.toML
     refine st (zj (f := 31) (vals := [v374]) (cap := []) rfl rfl Try.call31 (Xg  hm479 hS480) ?_)
     rintro _ w481 ⟨rfl, hS482⟩
     refine ze ?_
     refine zc ?_
     refine za (by kernel_rfl) (fun _ => ?_)
     refine st (zd (v := .int .i64 (0)) rfl ?_)
     refine ze ?_
     refine zt ?_
     obtain ⟨O9, hO9⟩ : ∃ O9, (yn (1 + q6) L1 ((zu M2).filter (fun x => !zA L1 x))) = O9 := ⟨_, rfl⟩
     rw [hO9] at hql9
     rw [hO9] at hS482
     have hS483 : Sep G W ((RowE (α := Ev) own 36 v435 L1) :: (RowE (α := Ev) own 36 v451 L1) :: (RefS b27 (1 + q6) L1) :: (SetO b24 (1 + q6) L1) :: (RowE (α := Ev) own 36 v391 O9) :: (RBufO b21 (max 0 (min most 256)) B2392) :: (BufO b18 (max 0 (min most 256)) (zu B2392)) :: Rs) w481 := hS482
     have hr484 := hS483.row (i := 4) rfl
     have hr484s : _ * 96 ≤ _ := hr484.2
     have hS485 := hS483.mv4
     obtain ⟨G486, hA488, hB489, hS490, hk491⟩ := hS485.lend
     have hrd492 := RowE.rd hA488
     have hrd492s : _ * 96 ≤ _ := hrd492.small
     have hS493 : Sep G486 w481 ((RefS b27 (1 + q6) L1) :: (SetO b24 (1 + q6) L1) :: (RBufO b21 (max 0 (min most 256)) B2392) :: (BufO b18 (max 0 (min most 256)) (zu B2392)) :: Rs) w481 := hS490.sel 6 [2, 3, 4, 5] (Nat.le_add_left _ _) rfl rfl
     refine zP (fun mq σ wq => ∃ (q9 : Nat) (T9 : List Ev) (ρ : Env), mq = O9.length - q9 ∧ σ = zQ ρ [(2, vl), (3, .int .i64 ((1 + q12 : Nat) : Int)), (9, .pointer (some ⟨b18, 0, none⟩)), (10, .pointer (some ⟨b21, 0, none⟩)), (11, .pointer (some ⟨b24, 0, none⟩)), (12, .pointer (some ⟨b27, 0, none⟩)), (13, .int .i64 ((k : Nat) : Int)), (16, v391), (17, .int .i64 ((q9 : Nat) : Int))] ∧ (q9 ≤ O9.length) ∧ (Good (1 + q6) T9) ∧ (T9.length ≤ L1.length + q9) ∧ Sep G486 w481 ((RefS b27 (1 + q6) T9) :: (SetO b24 (1 + q6) T9) :: (RBufO b21 (max 0 (min most 256)) B2392) :: (BufO b18 (max 0 (min most 256)) (zu B2392)) :: Rs) wq) ⟨0, L1, _, rfl, zh ⟨rfl, rfl, rfl, rfl, rfl, rfl, rfl, rfl, rfl, trivial⟩, Nat.zero_le _, hG1, Nat.le_refl _, hS493⟩ ?_
     rintro m495 σ496 w494 ⟨q9, T9, ρl2, rfl, rfl, hq9, hGT9, hTl9, hS497⟩
     have hat9 := xN (n := (1 + q6)) (L := T9) (e := O9.getD q9 default)
     refine zc ?_
     refine zc ?_
     refine zW (by kernel_rfl) ?_
     refine st (zb (v := .int .i64 ((k : Nat) : Int)) rfl ?_)
     have h0498 : (0 : Int) < 2 := by omega
     have h0498m : k % 2 < 2 := Nat.mod_lt _ (by omega)
     refine st (Ya (r := ((k % 2 : Nat) : Int)) rfl rfl h0498 (Int.ofNat_tmod _ _).symm ?_)
     refine st (yq (k := .i64) (a := ((k % 2 : Nat) : Int)) (b := 0) rfl rfl ?_)
     refine st (zb (v := .bool (decide (((k % 2 : Nat) : Int) = 0))) rfl ?_)
     refine stc (V := .int .i64 ((q9 : Nat) : Int)) rfl rfl (fun hb499 => ?_) ?_
     ·have hl500 := hb499
      have hl500 := of_decide_eq_true hl500
      exact zb (v := .int .i64 ((q9 : Nat) : Int)) rfl ⟨rfl, rfl⟩
     refine stc (V := v391) rfl rfl (fun hb501 => ?_) ?_
     ·have hl502 := hb501
      have hl502 := of_decide_eq_true hl502
      exact zb (v := v391) rfl ⟨rfl, rfl⟩
     refine stc (V := .int .i64 ((O9.length : Nat) : Int)) rfl rfl (fun hb503 => ?_) ?_
     ·have hl504 := hb503
      have hl504 := of_decide_eq_true hl504
      exact zJ (n := O9.length) Try.underlying22 (show _ = (v391 : Value) from (if_pos hb503)) hrd492.sl ⟨rfl, rfl⟩
     refine stc (V := .bool (decide (((q9 : Nat) : Int) < ((O9.length : Nat) : Int)))) rfl rfl (fun hb505 => ?_) ?_
     ·have hl506 := hb505
      have hl506 := of_decide_eq_true hl506
      exact zH (k := .i64) (a := ((q9 : Nat) : Int)) (b := ((O9.length : Nat) : Int)) (show _ = (.int .i64 ((q9 : Nat) : Int) : Value) from (if_pos hb505)) (show _ = (.int .i64 ((O9.length : Nat) : Int) : Value) from (if_pos hb505)) ⟨rfl, rfl⟩
     refine st (yp (b := decide (((k % 2 : Nat) : Int) = 0)) (b' := decide (((q9 : Nat) : Int) < ((O9.length : Nat) : Int))) rfl (fun hbp => (show _ = (.bool (decide (((q9 : Nat) : Int) < ((O9.length : Nat) : Int))) : Value) from (if_pos hbp))) ?_)
     refine ze ?_
     cases hc507 : (decide (((k % 2 : Nat) : Int) = 0)) && (decide (((q9 : Nat) : Int) < ((O9.length : Nat) : Int)))
     ·skip
      have hc507r := hc507
      try simp only [zx] at hc507
      refine zi rfl ?_
      refine zO ?_
      try simp only [Un]
      refine zF ?_
      have hS508 := hk491 _ _ hS497
      have hS509 : Sep G W ((RBufO b21 (max 0 (min most 256)) B2392) :: (BufO b18 (max 0 (min most 256)) (zu B2392)) :: (RefS b27 (1 + q6) T9) :: (SetO b24 (1 + q6) T9) :: Rs) w494 := hS508.sel 5 [3, 4, 1, 2] (Nat.le_add_left _ _) rfl rfl
      exact ⟨rfl, T9, B2392, _, zh ⟨(show _ = (vl : Value) from rfl), (show _ = (.int .i64 ((1 + q12 : Nat) : Int) : Value) from rfl), (show _ = (.pointer (some ⟨b18, 0, none⟩) : Value) from rfl), (show _ = (.pointer (some ⟨b21, 0, none⟩) : Value) from rfl), (show _ = (.pointer (some ⟨b24, 0, none⟩) : Value) from rfl), (show _ = (.pointer (some ⟨b27, 0, none⟩) : Value) from rfl), (show _ = (.int .i64 ((k : Nat) : Int) : Value) from rfl), trivial⟩, hGT9, hB2393, by omega, hS509⟩
     ·skip
      have hc507r := hc507
      try simp only [zx] at hc507
      refine zk rfl ?_
      refine zo ?_
      refine zc ?_
      refine zt ?_
      refine zc ?_
      refine za (by kernel_rfl) (fun _ => ?_)
      refine st (zb (v := .pointer (some ⟨b24, 0, none⟩)) rfl ?_)
      refine st (zb (v := v391) rfl ?_)
      refine st (zb (v := .int .i64 ((q9 : Nat) : Int)) rfl ?_)
      have hi510 : q9 < O9.length := (by first | omega | (simp only [lens]; omega))
      refine st (zl (k := 10) (i := q9) Try.underlying22 Try.sizeOf36 rfl hrd492.sl rfl hi510 ?_)
      have hi512 : q9 < O9.length := (by first | omega | (simp only [lens]; omega))
      obtain ⟨hce511, hde511_0, hoke511⟩ := hrd492.ev hi512
      rw [← zm default hi512] at hce511 hde511_0 hoke511
      have hsm513 : ((O9.getD q9 default).deps).length * 8 ≤ 140737488355328 := hde511_0.small
      have hcw514 := hS497.cells hce511 (hrd492.foot (ne_of_lt hi512))
      refine st (zr (k := 10) Try.isAgg36 Try.sizeOf36 rfl rfl hcw514 ?_)
      have hS515 := hS497.mv1
      refine st (zj (f := 13) (vals := [.pointer (some ⟨b24, 0, none⟩), .agg ((O9.getD q9 default).cells (zT w481 (sb v391) (so v391 + q9 * 10 + 3))).toArray]) (cap := []) rfl rfl Try.call13 (Ye (e := (O9.getD q9 default)) hde511_0 hoke511 hS515 ((by omega)) (by first | exact hG9.len | exact hGT9.len)) ?_)
      rintro _ w516 ⟨rfl, hS517⟩
      refine ze ?_
      refine za (by kernel_rfl) (fun _ => ?_)
      refine st (zb (v := .pointer (some ⟨b27, 0, none⟩)) rfl ?_)
      refine st (zb (v := v391) rfl ?_)
      refine st (zb (v := .int .i64 ((q9 : Nat) : Int)) rfl ?_)
      have hi518 : q9 < O9.length := (by first | omega | (simp only [lens]; omega))
      refine st (zl (k := 10) (i := q9) Try.underlying22 Try.sizeOf36 rfl hrd492.sl rfl hi518 ?_)
      have hcw520 := hS517.cells hce511 (hrd492.foot (ne_of_lt hi512))
      refine st (zr (k := 10) Try.isAgg36 Try.sizeOf36 rfl rfl hcw520 ?_)
      have hS521 := hS517.mv1
      refine st (zj (f := 22) (vals := [.pointer (some ⟨b27, 0, none⟩), .agg ((O9.getD q9 default).cells (zT w481 (sb v391) (so v391 + q9 * 10 + 3))).toArray]) (cap := []) rfl rfl Try.call22 (YE (e := (O9.getD q9 default)) hde511_0 hoke511 hS521 (by first | exact hG9 | exact hGT9) ((by omega)) ((by omega))) ?_)
      rintro _ w522 ⟨rfl, hS523⟩
      refine ze ?_
      refine za (by kernel_rfl) (fun _ => ?_)
      refine st (zb (v := .int .i64 ((q9 : Nat) : Int)) rfl ?_)
      have hr524 : InR ((q9 + 1 : Nat) : Int) := by first | omega | (simp only [lens]; omega)
      refine st (zB (r := ((q9 + 1 : Nat) : Int)) (k := .i64) (a := ((q9 : Nat) : Int)) (b := 1) rfl rfl (by rw [show (((q9 : Nat) : Int) + 1 : Int) = ((q9 + 1 : Nat) : Int) by first | omega | (simp only [lens]; omega)]; exact zy hr524) ?_)
      refine st (zd (v := .int .i64 ((q9 + 1 : Nat) : Int)) rfl ?_)
      refine ze ?_
      exact ⟨_, by omega, q9 + 1, (addL (1 + q6) T9 (O9.getD q9 default)), _, rfl, zh ⟨rfl, rfl, rfl, rfl, rfl, rfl, rfl, rfl, rfl, trivial⟩, by omega, hGT9.addL, by omega, hS523⟩
   rintro _ w525 ⟨L3, M3, ρj3, rfl, hG3, hM3, hB3, hS526⟩
   refine zc ?_
   refine za (by kernel_rfl) (fun _ => ?_)
   refine st (zb (v := .pointer (some ⟨b18, 0, none⟩)) rfl ?_)
   have hS527 := hS526.mv1
   obtain ⟨G528, hA530, hB531, hS532, hk533⟩ := hS527.lend
   obtain ⟨vl534, hb535, hl536⟩ := BufO.sh hA530
   have hsm537 : (zu M3).length * 96 ≤ 140737488355328 := hl536.small
   refine st (zj (f := 18) (vals := [.pointer (some ⟨b18, 0, none⟩)]) (cap := []) rfl rfl Try.call18 (xL  hA530 hS532) ?_)
   rintro _ w538 ⟨rfl, hS539⟩
   have hS540 := hk533 _ _ hS539
   refine st (zb (v := .pointer (some ⟨b21, 0, none⟩)) rfl ?_)
   have hS541 := hS540.mv1
   obtain ⟨G542, hA544, hB545, hS546, hk547⟩ := hS541.lend
   obtain ⟨vl548, hb549, hl550⟩ := RBufO.sh hA544
   have hsm551 : M3.length * 96 ≤ 140737488355328 := hl550.small
   refine st (zj (f := 32) (vals := [.pointer (some ⟨b21, 0, none⟩)]) (cap := []) rfl rfl Try.call32 (VQ  hA544 hS546) ?_)
   rintro _ w552 ⟨rfl, hS553⟩
   have hS554 := hk547 _ _ hS553
   refine st (yH (k := .i64) (a := (((zu M3).length : Nat) : Int)) (b := ((M3.length : Nat) : Int)) rfl rfl ?_)
   have hkn555 : (!decide ((((zu M3).length : Nat) : Int) = ((M3.length : Nat) : Int))) = false := (by rw [Bool.not_eq_false', decide_eq_true_eq, yD])
   rw [hkn555]
   refine ze ?_
   refine zi rfl ?_
   refine zo ?_
   refine za (by kernel_rfl) (fun _ => ?_)
   refine st (zb (v := .int .i64 ((k : Nat) : Int)) rfl ?_)
   have hr556 : InR ((k + 1 : Nat) : Int) := by first | omega | (simp only [lens]; omega)
   refine st (zB (r := ((k + 1 : Nat) : Int)) (k := .i64) (a := ((k : Nat) : Int)) (b := 1) rfl rfl (by rw [show (((k : Nat) : Int) + 1 : Int) = ((k + 1 : Nat) : Int) by first | omega | (simp only [lens]; omega)]; exact zy hr556) ?_)
   refine st (zd (v := .int .i64 ((k + 1 : Nat) : Int)) rfl ?_)
   refine ze ?_
   have hS557 : Sep G W ((RefS b27 (1 + q6) L3) :: (SetO b24 (1 + q6) L3) :: (RBufO b21 (max 0 (min most 256)) M3) :: (BufO b18 (max 0 (min most 256)) (zu M3)) :: Rs) w552 := hS554.sel 4 [2, 3, 0, 1] (Nat.le_add_left _ _) rfl rfl
   exact ⟨_, by omega, k + 1, L3, M3, _, rfl, zh ⟨rfl, rfl, rfl, rfl, rfl, rfl, rfl, trivial⟩, by omega, hG3, hM3, by omega, hS557⟩
 ·skip
  have hc5r := hc5
  refine zk rfl ?_
  refine zc ?_
  refine za (by kernel_rfl) (fun _ => ?_)
  refine st (zj (f := 9) (vals := []) (cap := []) rfl rfl Try.call9 (xi  hS4) ?_)
  rintro _ w558 ⟨rfl, hS559⟩
  refine st (zd (v := .bool true) rfl ?_)
  refine ze ?_
  refine zw ?_
  refine zL Try.results5 (show _ = (.bool true : Value) from rfl) ?_
  refine ⟨rfl, hS559⟩

end Go.Proofs.Ytmiihhbeclhaoaa
end

section
/- Steps of the proofs of this seat: part E6. -/
set_option maxRecDepth 8000
set_option maxHeartbeats 4000000
namespace Go.Proofs.Ytmiihhbeclhaoaa
open Go.Proofs Go.RowKit

def evH : Ev := ⟨1, 2, 3, [1, 1], 0, 0, 0, 1, 1, 0⟩
theorem QI : evH.Ok := by constructor <;> decide
theorem kb8 : yF (max 0 (min 1 256)) [] evT = [evT] := by decide +kernel
theorem kb9 : yF (max 0 (min 1 256)) [evT] evO = [evT] := by decide +kernel
theorem Xi {G : Nat → Prop} {W w : World} {Rs : List HP}  (hS0 : Sep G W Rs w) : Ret Try.prog 7 [] w (fun r w' => r = (.bool true : Value) ∧ Sep G W Rs w') := by
 refine zp (args := []) Try.func7 rfl rfl ?_
 refine zc ?_
 refine za (by kernel_rfl) (fun _ => ?_)
 refine st (zd (v := .bool false) rfl ?_)
 refine ze ?_
 refine zc ?_
 refine za (by kernel_rfl) (fun _ => ?_)
 refine st (zD (k := 1) (parts' := [(0, .int .i64 (-9223372036854775808)), (1, .int .i64 (-1)), (2, .int .i64 (0)), (3, .int .i64 (1)), (4, .int .i64 (2)), (5, .int .i64 (255)), (6, .int .i64 (256)), (7, .int .i64 (257)), (8, .int .i64 (9223372036854775807))]) (c := #[.int .i64 (-9223372036854775808), .int .i64 (-1), .int .i64 (0), .int .i64 (1), .int .i64 (2), .int .i64 (255), .int .i64 (256), .int .i64 (257), .int .i64 (9223372036854775807)]) Try.underlying34 Try.sizeOf3 Try.zeroValue3 (by decide) rfl (by kernel_rfl) ?_)
 intro w3 b2 hn1
 have hS4 := hS0.new hn1
 refine st (zd (v := (.slice (some ⟨b2, 0, none⟩) 9 9)) rfl ?_)
 refine ze ?_
 refine zc ?_
 refine zc ?_
 refine za (by kernel_rfl) (fun _ => ?_)
 refine st (zd (v := .int .i64 (0)) rfl ?_)
 refine ze ?_
 refine zt ?_
 have hS5 : Sep G W ((RowE (α := Int) own 3 (.slice (some ⟨b2, 0, none⟩) 9 9) [-9223372036854775808, -1, 0, 1, 2, 255, 256, 257, 9223372036854775807]) :: Rs) w3 := Sep.blkRow (src := own) (l := [-9223372036854775808, -1, 0, 1, 2, 255, 256, 257, 9223372036854775807]) (css := [[.int .i64 (-9223372036854775808)], [.int .i64 (-1)], [.int .i64 (0)], [.int .i64 (1)], [.int .i64 (2)], [.int .i64 (255)], [.int .i64 (256)], [.int .i64 (257)], [.int .i64 (9223372036854775807)]]) hS4 rfl ⟨fun _ _ => ⟨rfl, (by decide)⟩, fun _ _ => ⟨rfl, (by decide)⟩, fun _ _ => ⟨rfl, (by decide)⟩, fun _ _ => ⟨rfl, (by decide)⟩, fun _ _ => ⟨rfl, (by decide)⟩, fun _ _ => ⟨rfl, (by decide)⟩, fun _ _ => ⟨rfl, (by decide)⟩, fun _ _ => ⟨rfl, (by decide)⟩, fun _ _ => ⟨rfl, (by decide)⟩, trivial⟩ (by first | decide | (simp only [List.length_cons, List.length_nil]; decide))
 have hr6 := hS5.row (i := 0) rfl
 have hr6s : _ * 8 ≤ _ := hr6.2
 refine zP (fun mq σ wq => ∃ (k : Nat) (ρ : Env), mq = 9 - k ∧ σ = zQ ρ [(1, (.slice (some ⟨b2, 0, none⟩) 9 9)), (2, .int .i64 ((k : Nat) : Int))] ∧ (k ≤ 9) ∧ Sep G W ((RowE (α := Int) own 3 (.slice (some ⟨b2, 0, none⟩) 9 9) [-9223372036854775808, -1, 0, 1, 2, 255, 256, 257, 9223372036854775807]) :: Rs) wq) ⟨0, _, rfl, zh ⟨rfl, rfl, trivial⟩, Nat.zero_le _, hS5⟩ ?_
 rintro m8 σ9 w7 ⟨k, ρl1, rfl, rfl, hkk, hS10⟩
 refine zc ?_
 refine zc ?_
 refine za (by kernel_rfl) (fun _ => ?_)
 refine st (zb (v := .int .i64 ((k : Nat) : Int)) rfl ?_)
 refine st (zb (v := (.slice (some ⟨b2, 0, none⟩) 9 9)) rfl ?_)
 refine st (zJ (n := [-9223372036854775808, -1, 0, 1, 2, 255, 256, 257, 9223372036854775807].length) Try.underlying34 rfl hr6.1 ?_)
 refine st (zH (k := .i64) (a := ((k : Nat) : Int)) (b := (([-9223372036854775808, -1, 0, 1, 2, 255, 256, 257, 9223372036854775807].length : Nat) : Int)) rfl rfl ?_)
 refine ze ?_
 cases hc11 : decide (((k : Nat) : Int) < (([-9223372036854775808, -1, 0, 1, 2, 255, 256, 257, 9223372036854775807].length : Nat) : Int))
 ·skip
  have hc11r := hc11
  have hc11 := of_decide_eq_false hc11
  refine zi rfl ?_
  refine zO ?_
  refine zF ?_
  refine zc ?_
  refine za (by kernel_rfl) (fun _ => ?_)
  refine st (zj (f := 33) (vals := []) (cap := []) rfl rfl Try.call33 (Ym  hS10) ?_)
  rintro _ w13 ⟨v12, rfl, hS14⟩
  have hr15 := hS14.row (i := 0) rfl
  have hr15s : _ * 8 ≤ _ := hr15.2
  refine st (ye Try.zeroValue36 ?_)
  intro w18 b17 hn16
  have hS19 := hS14.new hn16
  refine stn (zY (v := .agg (evT.cells v12).toArray) (c' := (evT.cells v12).toArray) Try.sizeOf36 rfl rfl (hS19.blk (i := 0) rfl) (yU ⟨rfl, rfl, rfl, hr15.1.one, rfl, rfl, rfl, rfl, rfl, rfl, trivial⟩) (Nat.le_of_ble_eq_true rfl) rfl ?_)
  intro w20 hp21
  have hS22 := hS19.pt0 hp21
  refine ze ?_
  refine zc ?_
  refine za (by kernel_rfl) (fun _ => ?_)
  refine st (zS rfl ?_)
  refine st (xg rfl ?_)
  refine stn (yd (v := .int .i64 (2)) (c := [.int .i64 (evT.origin), .int .i64 (evT.seq), .int .i64 (evT.lam), v12, .int .i64 (evT.typ), .int .i64 (evT.agg), .int .i64 (evT.field), .int .i64 (evT.op), .int .i64 (evT.arg), .int .i64 (evT.key)]) (c' := [.int .i64 (evT.origin), .int .i64 (2), .int .i64 (evT.lam), v12, .int .i64 (evT.typ), .int .i64 (evT.agg), .int .i64 (evT.field), .int .i64 (evT.op), .int .i64 (evT.arg), .int .i64 (evT.key)]) Try.sizeOf3 rfl rfl (hS22.blk (i := 0) rfl) rfl rfl rfl ?_)
  intro w23 hp24
  have hS25 := hS22.pt0 hp24
  refine ze ?_
  refine zc ?_
  refine za (by kernel_rfl) (fun _ => ?_)
  refine st (yO rfl ?_)
  refine stn (yd (v := .int .i64 (3)) (c := [.int .i64 (evT.origin), .int .i64 (2), .int .i64 (evT.lam), v12, .int .i64 (evT.typ), .int .i64 (evT.agg), .int .i64 (evT.field), .int .i64 (evT.op), .int .i64 (evT.arg), .int .i64 (evT.key)]) (c' := [.int .i64 (evT.origin), .int .i64 (2), .int .i64 (3), v12, .int .i64 (evT.typ), .int .i64 (evT.agg), .int .i64 (evT.field), .int .i64 (evT.op), .int .i64 (evT.arg), .int .i64 (evT.key)]) Try.sizeOf3 rfl rfl (hS25.blk (i := 0) rfl) rfl rfl rfl ?_)
  intro w26 hp27
  have hS28 := hS25.pt0 hp27
  refine ze ?_
  refine zc ?_
  refine za (by kernel_rfl) (fun _ => ?_)
  refine st (zD (k := 1) (parts' := [(0, .int .i64 (1)), (1, .int .i64 (1))]) (c := #[.int .i64 (1), .int .i64 (1)]) Try.underlying34 Try.sizeOf3 Try.zeroValue3 (by decide) rfl (by kernel_rfl) ?_)
  intro w31 b30 hn29
  have hS32 := hS28.new hn29
  refine st (yB rfl ?_)
  refine stn (yd (v := (.slice (some ⟨b30, 0, none⟩) 2 2)) (c := [.int .i64 (evT.origin), .int .i64 (2), .int .i64 (3), v12, .int .i64 (evT.typ), .int .i64 (evT.agg), .int .i64 (evT.field), .int .i64 (evT.op), .int .i64 (evT.arg), .int .i64 (evT.key)]) (c' := [.int .i64 (evT.origin), .int .i64 (2), .int .i64 (3), (.slice (some ⟨b30, 0, none⟩) 2 2), .int .i64 (evT.typ), .int .i64 (evT.agg), .int .i64 (evT.field), .int .i64 (evT.op), .int .i64 (evT.arg), .int .i64 (evT.key)]) Try.sizeOf34 rfl rfl (hS32.blk (i := 1) rfl) rfl rfl rfl ?_)
  intro w33 hp34
  have hS35 := hS32.pt1 hp34
  refine ze ?_
  refine zc ?_
  have hS36 : Sep G W ((RowE (α := Int) own 3 (.slice (some ⟨b30, 0, none⟩) 2 2) [1, 1]) :: (Blk b17 (evH.cells (.slice (some ⟨b30, 0, none⟩) 2 2)).toArray 36) :: (RowE (α := Int) own 3 v12 evT.deps) :: (RowE (α := Int) own 3 (.slice (some ⟨b2, 0, none⟩) 9 9) [-9223372036854775808, -1, 0, 1, 2, 255, 256, 257, 9223372036854775807]) :: Rs) w33 := Sep.blkRow (src := own) (l := [1, 1]) (css := [[.int .i64 (1)], [.int .i64 (1)]]) hS35 rfl ⟨fun _ _ => ⟨rfl, (by decide)⟩, fun _ _ => ⟨rfl, (by decide)⟩, trivial⟩ (by first | decide | (simp only [List.length_cons, List.length_nil]; decide))
  have hr37 := hS36.row (i := 0) rfl
  have hr37s : _ * 8 ≤ _ := hr37.2
  refine zM ((fun TT pp0 => WF [fun vals wq => Sep G W (pp0 :: TT) wq, fun vals wq => ∃ (v52 : Value), (vals 1 = (.agg (evT.cells v52).toArray : Value)) ∧ Sep G W ((RowE (α := Int) own 3 v52 evT.deps) :: pp0 :: TT) wq, fun vals wq => ∃ (v52 : Value) (v64 : Value), (vals 1 = (.agg (evT.cells v52).toArray : Value)) ∧ (vals 2 = (.agg (evO.cells v64).toArray : Value)) ∧ Sep G W ((RowE (α := Int) own 3 v64 evO.deps) :: (RowE (α := Int) own 3 v52 evT.deps) :: pp0 :: TT) wq, fun vals wq => ∃ (v52 : Value) (v64 : Value) (b86 : Nat), (vals 1 = (.agg (evT.cells v52).toArray : Value)) ∧ (vals 2 = (.agg (evO.cells v64).toArray : Value)) ∧ (vals 4 = ((.slice (some ⟨b86, 0, none⟩) 4 4) : Value)) ∧ Sep G W ((Blk b86 #[.int .i64 (evH.origin), .int .i64 (evH.seq), .int .i64 (evH.lam), (.slice (some ⟨b30, 0, none⟩) 2 2), .int .i64 (evH.typ), .int .i64 (evH.agg), .int .i64 (evH.field), .int .i64 (evH.op), .int .i64 (evH.arg), .int .i64 (evH.key), .int .i64 (evT.origin), .int .i64 (evT.seq), .int .i64 (evT.lam), v52, .int .i64 (evT.typ), .int .i64 (evT.agg), .int .i64 (evT.field), .int .i64 (evT.op), .int .i64 (evT.arg), .int .i64 (evT.key), .int .i64 (evO.origin), .int .i64 (evO.seq), .int .i64 (evO.lam), v64, .int .i64 (evO.typ), .int .i64 (evO.agg), .int .i64 (evO.field), .int .i64 (evO.op), .int .i64 (evO.arg), .int .i64 (evO.key), .int .i64 (evH.origin), .int .i64 (evH.seq), .int .i64 (evH.lam), (.slice (some ⟨b30, 0, none⟩) 2 2), .int .i64 (evH.typ), .int .i64 (evH.agg), .int .i64 (evH.field), .int .i64 (evH.op), .int .i64 (evH.arg), .int .i64 (evH.key)] 36) :: (RowE (α := Int) own 3 v64 evO.deps) :: (RowE (α := Int) own 3 v52 evT.deps) :: pp0 :: TT) wq]) ((Blk b17 (evH.cells (.slice (some ⟨b30, 0, none⟩) 2 2)).toArray 36) :: (RowE (α := Int) own 3 v12 evT.deps) :: (RowE (α := Int) own 3 (.slice (some ⟨b2, 0, none⟩) 9 9) [-9223372036854775808, -1, 0, 1, 2, 255, 256, 257, 9223372036854775807]) :: Rs) (RowE (α := Int) own 3 (.slice (some ⟨b30, 0, none⟩) 2 2) [1, 1])) (AF [Vl 0 (.agg (evH.cells (.slice (some ⟨b30, 0, none⟩) 2 2)).toArray), fun _ => True, fun _ => True, Vl 3 (.agg (evH.cells (.slice (some ⟨b30, 0, none⟩) 2 2)).toArray), fun _ => True, fun vals => ∀ (b86 : Nat), vals 4 = ((.slice (some ⟨b86, 0, none⟩) 4 4) : Value) → vals 5 = ((.slice (some ⟨b86, 0, none⟩) 4 4) : Value)]) [[], [], [1], [], [0, 1, 2, 3], [0, 1, 2, 3, 4]] [1, 2, 4] [(0, 2), (0, 0), (1, 1), (0, 2), (2, 2), (3, 3)] (by kernel_rfl) (by kernel_rfl) (by kernel_rfl) rfl (by kernel_rfl) (by kernel_rfl) (fun _ h1 h2 h3 h4 _ => hS36.same h1 h2 h3 h4) ?_ (yc ⟨dA, dT, dT, dA, dT, fun vals vals' hv h => fun b86 hq0 => (hv 5 (.inl rfl)).trans (h b86 ((hv 4 (.inr (by decide))).symm.trans hq0)), trivial⟩) ⟨?_, ?_, ?_, ?_, ?_, ?_, trivial⟩ ?_
  ·intro k vals vals' w hv h
   have e : ∀ j ∈ ([1, 2, 4] : List Nat), vals' j = vals j := hv
   match k, h with
   | 0, h => exact h
   | 1, h => exact (by simpa only [WF, List.getElem?_cons_zero, List.getElem?_cons_succ, e 1 (by decide)] using h)
   | 2, h => exact (by simpa only [WF, List.getElem?_cons_zero, List.getElem?_cons_succ, e 1 (by decide), e 2 (by decide)] using h)
   | 3, h => exact (by simpa only [WF, List.getElem?_cons_zero, List.getElem?_cons_succ, e 1 (by decide), e 2 (by decide), e 4 (by decide)] using h)
   | _ + 4, _ => trivial
  ·intro k97 vals w98 h101 h102 hW100 hA99
   have hkk : k97 = 0 ∨ k97 = 1 ∨ k97 = 2 := by have h1 : 0 ≤ k97 := h101; have h2 : k97 ≤ 2 := h102; omega
   rcases hkk with rfl | rfl | rfl
   ·skip
    have hS103 : Sep _ _ _ _ := hW100
    refine obl rfl ?_
    exact zr (k := 10) Try.isAgg36 Try.sizeOf36 rfl rfl (CellsAt.all (hS103.blk (i := 1) rfl)) (fun vals' hv _ => ⟨rfl, hv⟩)
   ·skip
    obtain ⟨v52, he56, hS104⟩ := hW100
    refine obl rfl ?_
    exact zr (k := 10) Try.isAgg36 Try.sizeOf36 rfl rfl (CellsAt.all (hS104.blk (i := 2) rfl)) (fun vals' hv _ => ⟨rfl, hv⟩)
   ·skip
    obtain ⟨v52, v64, he56, he68, hS105⟩ := hW100
    refine obl rfl ?_
    exact zr (k := 10) Try.isAgg36 Try.sizeOf36 rfl rfl (CellsAt.all (hS105.blk (i := 3) rfl)) (fun vals' hv _ => ⟨rfl, hv⟩)
  ·intro k45 vals w46 h49 h50 hW48 hA47
   obtain rfl : k45 = 0 := Nat.le_antisymm h50 h49
   have hS51 : Sep _ _ _ _ := hW48
   refine obl rfl ?_
   refine (zj (f := 33) (vals := []) (cap := []) rfl rfl Try.call33 (Ym  hS51) ?_)
   rintro _ w53 ⟨v52, rfl, hS54⟩
   have hr55 := hS54.row (i := 0) rfl
   have hr55s : _ * 8 ≤ _ := hr55.2
   intro vals' hv hv'
   refine ⟨?_, trivial⟩
   show ∃ (v52 : Value), (vals' 1 = (.agg (evT.cells v52).toArray : Value)) ∧ Sep G W ((RowE (α := Int) own 3 v52 evT.deps) :: (RowE (α := Int) own 3 (.slice (some ⟨b30, 0, none⟩) 2 2) [1, 1]) :: (Blk b17 (evH.cells (.slice (some ⟨b30, 0, none⟩) 2 2)).toArray 36) :: (RowE (α := Int) own 3 v12 evT.deps) :: (RowE (α := Int) own 3 (.slice (some ⟨b2, 0, none⟩) 9 9) [-9223372036854775808, -1, 0, 1, 2, 255, 256, 257, 9223372036854775807]) :: Rs) w53
   exact ⟨v52, hv, hS54⟩
  ·intro k57 vals w58 h61 h62 hW60 hA59
   obtain rfl : k57 = 1 := Nat.le_antisymm h62 h61
   obtain ⟨v52, he56, hS63⟩ := hW60
   refine obl rfl ?_
   refine (zj (f := 34) (vals := []) (cap := []) rfl rfl Try.call34 (VY  hS63) ?_)
   rintro _ w65 ⟨v64, rfl, hS66⟩
   have hr67 := hS66.row (i := 0) rfl
   have hr67s : _ * 8 ≤ _ := hr67.2
   intro vals' hv hv'
   refine ⟨?_, trivial⟩
   show ∃ (v52 : Value) (v64 : Value), (vals' 1 = (.agg (evT.cells v52).toArray : Value)) ∧ (vals' 2 = (.agg (evO.cells v64).toArray : Value)) ∧ Sep G W ((RowE (α := Int) own 3 v64 evO.deps) :: (RowE (α := Int) own 3 v52 evT.deps) :: (RowE (α := Int) own 3 (.slice (some ⟨b30, 0, none⟩) 2 2) [1, 1]) :: (Blk b17 (evH.cells (.slice (some ⟨b30, 0, none⟩) 2 2)).toArray 36) :: (RowE (α := Int) own 3 v12 evT.deps) :: (RowE (α := Int) own 3 (.slice (some ⟨b2, 0, none⟩) 9 9) [-9223372036854775808, -1, 0, 1, 2, 255, 256, 257, 9223372036854775807]) :: Rs) w65
   exact ⟨v52, v64, (by rw [hv' 1 (by decide)]; exact he56), hv, hS66⟩
  ·intro k106 vals w107 h110 h111 hW109 hA108
   have hkk : k106 = 0 ∨ k106 = 1 ∨ k106 = 2 := by have h1 : 0 ≤ k106 := h110; have h2 : k106 ≤ 2 := h111; omega
   rcases hkk with rfl | rfl | rfl
   ·skip
    have hS112 : Sep _ _ _ _ := hW109
    refine obl rfl ?_
    exact zr (k := 10) Try.isAgg36 Try.sizeOf36 rfl rfl (CellsAt.all (hS112.blk (i := 1) rfl)) (fun vals' hv _ => ⟨rfl, hv⟩)
   ·skip
    obtain ⟨v52, he56, hS113⟩ := hW109
    refine obl rfl ?_
    exact zr (k := 10) Try.isAgg36 Try.sizeOf36 rfl rfl (CellsAt.all (hS113.blk (i := 2) rfl)) (fun vals' hv _ => ⟨rfl, hv⟩)
   ·skip
    obtain ⟨v52, v64, he56, he68, hS114⟩ := hW109
    refine obl rfl ?_
    exact zr (k := 10) Try.isAgg36 Try.sizeOf36 rfl rfl (CellsAt.all (hS114.blk (i := 3) rfl)) (fun vals' hv _ => ⟨rfl, hv⟩)
  ·intro k76 vals w77 h80 h81 hW79 hA78
   obtain rfl : k76 = 2 := Nat.le_antisymm h81 h80
   obtain ⟨v52, v64, he56, he68, hS82⟩ := hW79
   have e83 := hA78 0 (by decide)
   have e84 := hA78 3 (by decide)
   refine obl rfl ?_
   refine (zD (k := 10) (parts' := [(0, .agg (evH.cells (.slice (some ⟨b30, 0, none⟩) 2 2)).toArray), (1, .agg (evT.cells v52).toArray), (2, .agg (evO.cells v64).toArray), (3, .agg (evH.cells (.slice (some ⟨b30, 0, none⟩) 2 2)).toArray)]) (c := #[.int .i64 (evH.origin), .int .i64 (evH.seq), .int .i64 (evH.lam), (.slice (some ⟨b30, 0, none⟩) 2 2), .int .i64 (evH.typ), .int .i64 (evH.agg), .int .i64 (evH.field), .int .i64 (evH.op), .int .i64 (evH.arg), .int .i64 (evH.key), .int .i64 (evT.origin), .int .i64 (evT.seq), .int .i64 (evT.lam), v52, .int .i64 (evT.typ), .int .i64 (evT.agg), .int .i64 (evT.field), .int .i64 (evT.op), .int .i64 (evT.arg), .int .i64 (evT.key), .int .i64 (evO.origin), .int .i64 (evO.seq), .int .i64 (evO.lam), v64, .int .i64 (evO.typ), .int .i64 (evO.agg), .int .i64 (evO.field), .int .i64 (evO.op), .int .i64 (evO.arg), .int .i64 (evO.key), .int .i64 (evH.origin), .int .i64 (evH.seq), .int .i64 (evH.lam), (.slice (some ⟨b30, 0, none⟩) 2 2), .int .i64 (evH.typ), .int .i64 (evH.agg), .int .i64 (evH.field), .int .i64 (evH.op), .int .i64 (evH.arg), .int .i64 (evH.key)]) Try.underlying22 Try.sizeOf36 Try.zeroValue36 (by decide) (Ve ⟨rfl, e83, rfl, he56, rfl, he68, rfl, e84, trivial⟩) (by kernel_rfl) ?_)
   intro w87 b86 hn85
   have hS88 := hS82.new hn85
   intro vals' hv hv'
   refine ⟨?_, trivial⟩
   show ∃ (v52 : Value) (v64 : Value) (b86 : Nat), (vals' 1 = (.agg (evT.cells v52).toArray : Value)) ∧ (vals' 2 = (.agg (evO.cells v64).toArray : Value)) ∧ (vals' 4 = ((.slice (some ⟨b86, 0, none⟩) 4 4) : Value)) ∧ Sep G W ((Blk b86 #[.int .i64 (evH.origin), .int .i64 (evH.seq), .int .i64 (evH.lam), (.slice (some ⟨b30, 0, none⟩) 2 2), .int .i64 (evH.typ), .int .i64 (evH.agg), .int .i64 (evH.field), .int .i64 (evH.op), .int .i64 (evH.arg), .int .i64 (evH.key), .int .i64 (evT.origin), .int .i64 (evT.seq), .int .i64 (evT.lam), v52, .int .i64 (evT.typ), .int .i64 (evT.agg), .int .i64 (evT.field), .int .i64 (evT.op), .int .i64 (evT.arg), .int .i64 (evT.key), .int .i64 (evO.origin), .int .i64 (evO.seq), .int .i64 (evO.lam), v64, .int .i64 (evO.typ), .int .i64 (evO.agg), .int .i64 (evO.field), .int .i64 (evO.op), .int .i64 (evO.arg), .int .i64 (evO.key), .int .i64 (evH.origin), .int .i64 (evH.seq), .int .i64 (evH.lam), (.slice (some ⟨b30, 0, none⟩) 2 2), .int .i64 (evH.typ), .int .i64 (evH.agg), .int .i64 (evH.field), .int .i64 (evH.op), .int .i64 (evH.arg), .int .i64 (evH.key)] 36) :: (RowE (α := Int) own 3 v64 evO.deps) :: (RowE (α := Int) own 3 v52 evT.deps) :: (RowE (α := Int) own 3 (.slice (some ⟨b30, 0, none⟩) 2 2) [1, 1]) :: (Blk b17 (evH.cells (.slice (some ⟨b30, 0, none⟩) 2 2)).toArray 36) :: (RowE (α := Int) own 3 v12 evT.deps) :: (RowE (α := Int) own 3 (.slice (some ⟨b2, 0, none⟩) 9 9) [-9223372036854775808, -1, 0, 1, 2, 255, 256, 257, 9223372036854775807]) :: Rs) w87
   exact ⟨v52, v64, b86, (by rw [hv' 1 (by decide)]; exact he56), (by rw [hv' 2 (by decide)]; exact he68), hv, hS88⟩
  ·intro k115 vals w116 h119 h120 hW118 hA117
   obtain rfl : k115 = 3 := Nat.le_antisymm h120 h119
   obtain ⟨v52, v64, b86, he56, he68, he89, hS121⟩ := hW118
   refine obl rfl ?_
   refine zd (v := (.slice (some ⟨b86, 0, none⟩) 4 4)) he89 (fun vals' hv hv' => ⟨rfl, ?_⟩)
   intro b86q hq0
   rw [hv' 4 (by decide)] at hq0; cases he89.symm.trans hq0
   exact hv
  intro vals w122 hW123 hA124
  obtain ⟨v52, v64, b86, he56, he68, he89, hS125⟩ := hW123
  have e126 : vals 5 = ((.slice (some ⟨b86, 0, none⟩) 4 4) : Value) := hA124 5 (by decide) b86 he89
  refine yb (kv := [(1, (.slice (some ⟨b2, 0, none⟩) 9 9)), (2, .int .i64 ((k : Nat) : Int)), (8, .int .i64 ((k : Nat) : Int)), (9, (.slice (some ⟨b2, 0, none⟩) 9 9)), (10, .int .i64 (([-9223372036854775808, -1, 0, 1, 2, 255, 256, 257, 9223372036854775807].length : Nat) : Int)), (11, .bool false), (20, .agg (evT.cells v12).toArray), (3, .pointer (some ⟨b17, 0, none⟩)), (21, .pointer (some ⟨b17, 0, none⟩)), (22, .pointer (some ⟨b17, 1, none⟩)), (23, .pointer (some ⟨b17, 2, none⟩)), (24, (.slice (some ⟨b30, 0, none⟩) 2 2)), (25, .pointer (some ⟨b17, 3, none⟩)), (4, (.slice (some ⟨b86, 0, none⟩) 4 4))]) ⟨rfl, rfl, rfl, rfl, rfl, rfl, rfl, rfl, rfl, rfl, rfl, rfl, rfl, (by exact e126), trivial⟩ (fun ρw122 => ?_)
  refine ze ?_
  refine zc ?_
  refine zc ?_
  have hS127 := hS125.mv1
  obtain ⟨G128, hA130, hB131, hS132, hk133⟩ := hS127.lend
  have hrd134 := RowE.rd hA130
  have hrd134s : _ * 8 ≤ _ := hrd134.small
  have hS135 := hS132.mv1
  obtain ⟨G136, hA138, hB139, hS140, hk141⟩ := hS135.lend
  have hrd142 := RowE.rd hA138
  have hrd142s : _ * 8 ≤ _ := hrd142.small
  have hS143 := hS140.mv1
  obtain ⟨G144, hA146, hB147, hS148, hk149⟩ := hS143.lend
  have hrd150 := RowE.rd hA146
  have hrd150s : _ * 8 ≤ _ := hrd150.small
  have hS151 := hS148.mv2
  obtain ⟨G152, hA154, hB155, hS156, hk157⟩ := hS151.lend
  have hrd158 := RowE.rd hA154
  have hrd158s : _ * 8 ≤ _ := hrd158.small
  have hS159 := hS156.mv2
  obtain ⟨G160, hA162, hB163, hS164, hk165⟩ := hS159.lend
  have hrd166 := RowE.rd hA162
  have hrd166s : _ * 8 ≤ _ := hrd166.small
  have hS167 : Sep G160 w122 ((RowE (α := Ev) (shr G160 w122) 36 (.slice (some ⟨b86, 0, none⟩) 4 4) [evH, evT, evO, evH]) :: (Blk b17 (evH.cells (.slice (some ⟨b30, 0, none⟩) 2 2)).toArray 36) :: Rs) w122 := Sep.blkRow (src := (shr G160 w122)) (l := [evH, evT, evO, evH]) (css := [evH.cells (.slice (some ⟨b30, 0, none⟩) 2 2), evT.cells v52, evO.cells v64, evH.cells (.slice (some ⟨b30, 0, none⟩) 2 2)]) hS164 rfl ⟨fun _ _ => ⟨_, rfl, (RdS.base (RdS.base hrd150 hB155) hB163), QI⟩, fun _ _ => ⟨_, rfl, (RdS.base (RdS.base (RdS.base hrd142 hB147) hB155) hB163), Yi⟩, fun _ _ => ⟨_, rfl, (RdS.base (RdS.base (RdS.base (RdS.base hrd134 hB139) hB147) hB155) hB163), Wi⟩, fun _ _ => ⟨_, rfl, (RdS.base (RdS.base hrd150 hB155) hB163), QI⟩, trivial⟩ (by first | decide | (simp only [List.length_cons, List.length_nil]; decide))
  have hr168 := hS167.row (i := 0) rfl
  have hr168s : _ * 96 ≤ _ := hr168.2
  refine za (by kernel_rfl) (fun _ => ?_)
  refine st (zd (v := .int .i64 (0)) rfl ?_)
  refine ze ?_
  refine zt ?_
  refine zP (fun mq σ wq => ∃ (k : Nat) (ρ : Env), mq = 9 - k ∧ σ = zQ ρ [(4, (.slice (some ⟨b86, 0, none⟩) 4 4)), (5, .int .i64 ((k : Nat) : Int))] ∧ (k ≤ 9) ∧ Sep G160 w122 ((RowE (α := Ev) (shr G160 w122) 36 (.slice (some ⟨b86, 0, none⟩) 4 4) [evH, evT, evO, evH]) :: (Blk b17 (evH.cells (.slice (some ⟨b30, 0, none⟩) 2 2)).toArray 36) :: Rs) wq) ⟨0, _, rfl, zh ⟨rfl, rfl, trivial⟩, Nat.zero_le _, hS167⟩ ?_
  rintro m170 σ171 w169 ⟨k, ρl2, rfl, rfl, hkk, hS172⟩
  refine zc ?_
  refine zc ?_
  refine za (by kernel_rfl) (fun _ => ?_)
  refine st (zb (v := .int .i64 ((k : Nat) : Int)) rfl ?_)
  refine st (zH (k := .i64) (a := ((k : Nat) : Int)) (b := 9) rfl rfl ?_)
  refine ze ?_
  cases hc173 : decide (((k : Nat) : Int) < 9)
  ·skip
   have hc173r := hc173
   have hc173 := of_decide_eq_false hc173
   refine zi rfl ?_
   refine zO ?_
   refine zF ?_
   refine zc ?_
   refine za (by kernel_rfl) (fun _ => ?_)
   refine st (zj (f := 12) (vals := [.int .i64 (1)]) (cap := []) rfl rfl Try.call12 (ZC (x := 1) (by decide) hS172) ?_)
   rintro _ w175 ⟨b174, rfl, hS176⟩
   refine st (zd (v := .pointer (some ⟨b174, 0, none⟩)) rfl ?_)
   refine ze ?_
   refine zc ?_
   refine zW (by kernel_rfl) ?_
   refine st (zb (v := .pointer (some ⟨b174, 0, none⟩)) rfl ?_)
   refine st (UE (b := b174) (o := 0) Try.underlying28 rfl ?_)
   refine st (zb (v := .bool true) rfl ?_)
   refine sty rfl rfl (zb (v := .pointer (some ⟨b174, 0, none⟩)) rfl ?_)
   refine sty rfl rfl (zj (f := 33) (vals := []) (cap := []) rfl rfl Try.call33 (Ym  hS176) ?_)
   rintro _ w178 ⟨v177, rfl, hS179⟩
   have hr180 := hS179.row (i := 0) rfl
   have hr180s : _ * 8 ≤ _ := hr180.2
   obtain ⟨G181, hA183, hB184, hS185, hk186⟩ := hS179.lend
   have hrd187 := RowE.rd hA183
   have hrd187s : _ * 8 ≤ _ := hrd187.small
   refine sty rfl rfl (zj (f := 14) (vals := [.pointer (some ⟨b174, 0, none⟩), .agg (evT.cells v177).toArray]) (cap := []) rfl rfl Try.call14 (xk (e := evT) hrd187 Yi hS185 (by decide) (by first | exact List.Pairwise.nil | exact Qi) (by decide)) ?_)
   rintro _ w188 ⟨rfl, hS189⟩
   have hS190 := hk186 _ _ hS189
   rw [kb8] at hS190
   have hS191 : Sep G160 w122 ((RowE (α := Int) own 3 v177 evT.deps) :: (BufO b174 (max 0 (min 1 256)) [evT]) :: (RowE (α := Ev) (shr G160 w122) 36 (.slice (some ⟨b86, 0, none⟩) 4 4) [evH, evT, evO, evH]) :: (Blk b17 (evH.cells (.slice (some ⟨b30, 0, none⟩) 2 2)).toArray 36) :: Rs) w188 := hS190
   have hkn192 : ((ya (max 0 (min 1 256)) ([] : List Ev) evT)) = true := (by decide +kernel)
   rw [hkn192]
   refine st (yw (v := .bool true) rfl rfl ?_)
   refine st (zb (v := .bool true) rfl ?_)
   refine sty rfl rfl (zb (v := .pointer (some ⟨b174, 0, none⟩)) rfl ?_)
   refine sty rfl rfl (zj (f := 34) (vals := []) (cap := []) rfl rfl Try.call34 (VY  hS191) ?_)
   rintro _ w194 ⟨v193, rfl, hS195⟩
   have hr196 := hS195.row (i := 0) rfl
   have hr196s : _ * 8 ≤ _ := hr196.2
   obtain ⟨G197, hA199, hB200, hS201, hk202⟩ := hS195.lend
   have hrd203 := RowE.rd hA199
   have hrd203s : _ * 8 ≤ _ := hrd203.small
   have hS204 := hS201.mv1
   refine sty rfl rfl (zj (f := 14) (vals := [.pointer (some ⟨b174, 0, none⟩), .agg (evO.cells v193).toArray]) (cap := []) rfl rfl Try.call14 (xk (e := evO) hrd203 Wi hS204 (by decide) (by first | exact List.Pairwise.nil | exact Qi) (by decide)) ?_)
   rintro _ w205 ⟨rfl, hS206⟩
   have hS207 := hk202 _ _ hS206
   rw [kb9] at hS207
   have hS208 : Sep G160 w122 ((RowE (α := Int) own 3 v193 evO.deps) :: (BufO b174 (max 0 (min 1 256)) [evT]) :: (RowE (α := Int) own 3 v177 evT.deps) :: (RowE (α := Ev) (shr G160 w122) 36 (.slice (some ⟨b86, 0, none⟩) 4 4) [evH, evT, evO, evH]) :: (Blk b17 (evH.cells (.slice (some ⟨b30, 0, none⟩) 2 2)).toArray 36) :: Rs) w205 := hS207
   have hkn209 : ((ya (max 0 (min 1 256)) [evT] evO)) = false := (by decide +kernel)
   rw [hkn209]
   refine sty rfl rfl (yA (a := false) rfl ?_)
   refine st (yw (v := .bool true) rfl rfl ?_)
   refine st (zb (v := .bool true) rfl ?_)
   refine sty rfl rfl (zj (f := 9) (vals := []) (cap := []) rfl rfl Try.call9 (xi  hS208) ?_)
   rintro _ w210 ⟨rfl, hS211⟩
   refine st (yw (v := .bool true) rfl rfl ?_)
   refine st (zd (v := .bool true) rfl ?_)
   refine ze ?_
   refine zw ?_
   refine zL Try.results7 (show _ = (.bool true : Value) from rfl) ?_
   have hS212 := hk165 _ _ hS211
   have hS213 := hk157 _ _ hS212
   have hS214 := hk149 _ _ hS213
   have hS215 := hk141 _ _ hS214
   have hS216 := hk133 _ _ hS215
   have hS217 : Sep G W Rs w210 := hS216.sel 10 [] (Nat.le_add_left _ _) rfl rfl
   refine ⟨rfl, hS217⟩
  ·skip
   have hc173r := hc173
   have hc173 := of_decide_eq_true hc173
   refine zk rfl ?_
   refine zo ?_
   refine zc ?_
   refine zt ?_
   refine zc ?_
   refine zW (by kernel_rfl) ?_
   refine st (zb (v := .int .i64 ((k : Nat) : Int)) rfl ?_)
   refine st (zb (v := (.slice (some ⟨b86, 0, none⟩) 4 4)) rfl ?_)
   refine st (zb (v := .int .i64 ((k : Nat) : Int)) rfl ?_)
   obtain ⟨G218, hA220, hB221, hS222, hk223⟩ := hS172.lend
   have hrd224 := RowE.rdB hA220 hB221
   have hrd224s : _ * 96 ≤ _ := hrd224.small
   refine st (zj (f := 5) (vals := [.int .i64 ((k : Nat) : Int), .int .i64 (1), (.slice (some ⟨b86, 0, none⟩) 4 4), .int .i64 ((k : Nat) : Int)]) (cap := []) rfl rfl Try.call5 (Xd (most := ((k : Nat) : Int)) (n := 1) (l := [evH, evT, evO, evH]) (vl := (.slice (some ⟨b86, 0, none⟩) 4 4)) (every := ((k : Nat) : Int)) (by omega) (by decide) hrd224 (by omega) hS222) ?_)
   rintro _ w225 ⟨rfl, hS226⟩
   have hS227 := hk223 _ _ hS226
   refine st (yA (a := true) rfl ?_)
   refine st (zb (v := .bool false) rfl ?_)
   refine sty rfl rfl (zb (v := (.slice (some ⟨b86, 0, none⟩) 4 4)) rfl ?_)
   refine sty rfl rfl (zb (v := .int .i64 ((k : Nat) : Int)) rfl ?_)
   obtain ⟨G228, hA230, hB231, hS232, hk233⟩ := hS227.lend
   have hrd234 := RowE.rdB hA230 hB231
   have hrd234s : _ * 96 ≤ _ := hrd234.small
   refine sty rfl rfl (zj (f := 3) (vals := [.int .i64 (1), (.slice (some ⟨b86, 0, none⟩) 4 4), .int .i64 ((k : Nat) : Int)]) (cap := []) rfl rfl Try.call3 (WN (n := 1) (l := [evH, evT, evO, evH]) (vl := (.slice (some ⟨b86, 0, none⟩) 4 4)) (there := ((k : Nat) : Int)) (by decide) hrd234 (by omega) hS232) ?_)
   rintro _ w235 ⟨rfl, hS236⟩
   have hS237 := hk233 _ _ hS236
   refine sty rfl rfl (yA (a := true) rfl ?_)
   refine st (yo (v := .bool false) rfl rfl ?_)
   refine st (zb (v := .bool false) rfl ?_)
   refine sty rfl rfl (zb (v := (.slice (some ⟨b86, 0, none⟩) 4 4)) rfl ?_)
   refine sty rfl rfl (zb (v := .int .i64 ((k : Nat) : Int)) rfl ?_)
   obtain ⟨G238, hA240, hB241, hS242, hk243⟩ := hS237.lend
   have hrd244 := RowE.rdB hA240 hB241
   have hrd244s : _ * 96 ≤ _ := hrd244.small
   refine sty rfl rfl (zj (f := 4) (vals := [.int .i64 (1), (.slice (some ⟨b86, 0, none⟩) 4 4), .int .i64 ((k : Nat) : Int)]) (cap := []) rfl rfl Try.call4 (YU (n := 1) (l := [evH, evT, evO, evH]) (vl := (.slice (some ⟨b86, 0, none⟩) 4 4)) (first := ((k : Nat) : Int)) (by decide) hrd244 (by omega) hS242) ?_)
   rintro _ w245 ⟨rfl, hS246⟩
   have hS247 := hk243 _ _ hS246
   refine sty rfl rfl (yA (a := true) rfl ?_)
   refine st (yo (v := .bool false) rfl rfl ?_)
   refine ze ?_
   refine zi rfl ?_
   refine zo ?_
   refine za (by kernel_rfl) (fun _ => ?_)
   refine st (zb (v := .int .i64 ((k : Nat) : Int)) rfl ?_)
   have hr248 : InR ((k + 1 : Nat) : Int) := by first | omega | (simp only [lens]; omega)
   refine st (zB (r := ((k + 1 : Nat) : Int)) (k := .i64) (a := ((k : Nat) : Int)) (b := 1) rfl rfl (by rw [show (((k : Nat) : Int) + 1 : Int) = ((k + 1 : Nat) : Int) by first | omega | (simp only [lens]; omega)]; exact zy hr248) ?_)
   refine st (zd (v := .int .i64 ((k + 1 : Nat) : Int)) rfl ?_)
   refine ze ?_
   exact ⟨_, by omega, k + 1, _, rfl, zh ⟨rfl, rfl, trivial⟩, by omega, hS247⟩
 ·skip
  have hc11r := hc11
  have hc11 := of_decide_eq_true hc11
  have hk9 : ((k : Nat) : Int) < ((9 : Nat) : Int) := of_decide_eq_true hc11r
  refine zk rfl ?_
  refine zo ?_
  refine zc ?_
  refine zt ?_
  refine zc ?_
  refine za (by kernel_rfl) (fun _ => ?_)
  refine st (zb (v := (.slice (some ⟨b2, 0, none⟩) 9 9)) rfl ?_)
  refine st (zb (v := .int .i64 ((k : Nat) : Int)) rfl ?_)
  have hi249 : k < [-9223372036854775808, -1, 0, 1, 2, 255, 256, 257, 9223372036854775807].length := (by first | omega | (simp only [lens]; omega))
  refine st (zl (k := 1) (i := k) Try.underlying34 Try.sizeOf3 rfl hr6.1 rfl hi249 ?_)
  have hi251 : k < [-9223372036854775808, -1, 0, 1, 2, 255, 256, 257, 9223372036854775807].length := (by first | omega | (simp only [lens]; omega))
  obtain ⟨_, _, hce250, rfl, hxe250⟩ := hS10.rowAt (i := 0) (j := k) rfl hi251
  rw [← zm 0 hi251] at hce250 hxe250
  refine st (zg (v := .int .i64 (([-9223372036854775808, -1, 0, 1, 2, 255, 256, 257, 9223372036854775807].getD k 0))) Try.isAgg3 rfl (hce250.get (j := 0) rfl) ?_)
  refine st (zj (f := 6) (vals := [.int .i64 (([-9223372036854775808, -1, 0, 1, 2, 255, 256, 257, 9223372036854775807].getD k 0))]) (cap := []) rfl rfl Try.call6 (XU (most := ([-9223372036854775808, -1, 0, 1, 2, 255, 256, 257, 9223372036854775807].getD k 0)) hxe250 hS10) ?_)
  rintro _ w252 ⟨rfl, hS253⟩
  refine st (yA (a := true) rfl ?_)
  refine ze ?_
  refine zi rfl ?_
  refine zo ?_
  refine za (by kernel_rfl) (fun _ => ?_)
  refine st (zb (v := .int .i64 ((k : Nat) : Int)) rfl ?_)
  have hr254 : InR ((k + 1 : Nat) : Int) := by first | omega | (simp only [lens]; omega)
  refine st (zB (r := ((k + 1 : Nat) : Int)) (k := .i64) (a := ((k : Nat) : Int)) (b := 1) rfl rfl (by rw [show (((k : Nat) : Int) + 1 : Int) = ((k + 1 : Nat) : Int) by first | omega | (simp only [lens]; omega)]; exact zy hr254) ?_)
  refine st (zd (v := .int .i64 ((k + 1 : Nat) : Int)) rfl ?_)
  refine ze ?_
  exact ⟨_, by omega, k + 1, _, rfl, zh ⟨rfl, rfl, trivial⟩, by omega, hS253⟩

end Go.Proofs.Ytmiihhbeclhaoaa
end

section
/- Steps of the proofs of this seat: part F6. -/
set_option maxRecDepth 8000
set_option maxHeartbeats 4000000
namespace Go.Proofs.Ytmiihhbeclhaoaa
open Go.Proofs Go.RowKit

theorem Xh {W : World}  : Ret Try.prog 7 [] W (fun r w' => r = .bool true ∧ Ext W w') :=
  Ret.mono (Xi (Sep.start W)) (fun v w' ⟨h1, h2⟩ => ⟨h1, h2.fin⟩)
end Go.Proofs.Ytmiihhbeclhaoaa
end
