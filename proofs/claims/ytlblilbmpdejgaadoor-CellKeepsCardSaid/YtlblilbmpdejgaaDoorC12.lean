/- Steps of the proofs of this seat: part C12. -/
import Derived.Test.YtlblilbmpdejgaaDoorC11
set_option linter.unusedSimpArgs false
set_option linter.unusedVariables false
set_option maxRecDepth 8000
namespace Go.Proofs.YtlblilbmpdejgaaDoor
open Go.Proofs Go.RowKit

theorem copy_n {sh : List CelS} {c : List Cel} {k : Nat} {v : Value} (hlen : sh.length = c.length) (hn : ∀ i, i < k → (sh.getD i default).n = (c.getD i default).n) (hk : k < c.length) : ∀ i, i < k + 1 → ((sh.set k ⟨(c.getD k default).n, v⟩).getD i default).n = (c.getD i default).n := by
  intro i hi
  by_cases e : i = k
  · subst e; rw [getD_set_self (by omega)]
  · rw [getD_set_ne (fun h => e h.symm)]; exact hn i (by omega)
theorem D_Copy {G : Nat → Prop} {W w : World} {Rs : List HP} {vc : Value} {c : List Cel} (hc : RdS W G vc c) (hS0 : Sep G W Rs w) : Ret Tryd.prog 74 [vc] w (fun r w' => ∃ (v : Value), r = (v : Value) ∧ Sep G W ((CelW v 42 3 c) :: Rs) w') := by
 have hcs : c.length * 32 ≤ 140737488355328 := hc.small
 refine Calls_of_WP (args := [vc]) Tryd.func74 rfl rfl ?_
 refine WP_seq ?_
 refine WP_region0 (by kernel_rfl) (fun _ => ?_)
 refine st (ov_assign (v := (.slice none 0 0)) rfl ?_)
 refine st_nil ?_
 refine WP_seq ?_
 refine WP_region0 (by kernel_rfl) (fun _ => ?_)
 refine st (ov_move (v := vc) rfl ?_)
 refine st (ov_len (n := c.length) Tryd.underlying26 rfl hc.sl ?_)
 refine st (ov_makeSlice (α := CelS) (T := 42) (bytes := 32) (n := c.length) (x1 := (⟨0, .slice none 0 0⟩ : CelS)) Tryd.underlying26 ⟨_, _, rfl, rfl, rfl, rfl, rfl, fun _ _ => ⟨rfl, ⟨by decide, rfl⟩⟩⟩ rfl rfl rfl (by show c.length * 32 ≤ 140737488355328; omega) ?_)
 intro w6 b1 hx2 he3 hl4 ho5
 have hS7 : Sep G W ((RowE (α := CelS) own 42 (.slice (some ⟨b1, 0, none⟩) c.length c.length) (List.replicate c.length (⟨0, .slice none 0 0⟩ : CelS))) :: Rs) w6 := hS0.made hx2 ho5
 have hr8 := hS7.row (i := 0) rfl
 have hr8s : (List.replicate c.length (⟨0, .slice none 0 0⟩ : CelS)).length * 32 ≤ 140737488355328 := hr8.2
 refine st (ov_assign (v := (.slice (some ⟨b1, 0, none⟩) c.length c.length)) rfl ?_)
 refine st_nil ?_
 refine WP_seq ?_
 refine WP_seq ?_
 refine WP_region0 (by kernel_rfl) (fun _ => ?_)
 refine st (ov_assign (v := .int .i64 (0)) rfl ?_)
 refine st_nil ?_
 refine WP_block ?_
 have hS9 : Sep G W ((Star []) :: (RowE (α := CelS) own 42 (.slice (some ⟨b1, 0, none⟩) c.length c.length) (List.replicate c.length (⟨0, .slice none 0 0⟩ : CelS))) :: Rs) w6 := hS7.nilStar
 have hS10 : Sep G W ((RowE (α := CelS) own 42 (.slice (some ⟨b1, 0, none⟩) c.length c.length) (List.replicate c.length (⟨0, .slice none 0 0⟩ : CelS))) :: (Star []) :: Rs) w6 := hS9.sel 2 [1, 0] (Nat.le_add_left _ _) rfl rfl
 refine WP_loop (fun mq σ wq => ∃ (k : Nat) (shk : List CelS) (ρ : Env), mq = c.length - k ∧ σ = setAll ρ [(0, vc), (3, (.slice (some ⟨b1, 0, none⟩) c.length c.length)), (4, .int .i64 ((k : Nat) : Int))] ∧ (k ≤ c.length) ∧ (shk.length = c.length) ∧ (∀ i, i < k → (shk.getD i default).n = (c.getD i default).n) ∧ Sep G W ((RowE (α := CelS) own 42 (.slice (some ⟨b1, 0, none⟩) c.length c.length) shk) :: (Star (SetRows 3 (shk.take k) (c.take k))) :: Rs) wq) ⟨0, List.replicate c.length (⟨0, .slice none 0 0⟩ : CelS), _, rfl, setAll_self ⟨rfl, rfl, rfl, trivial⟩, Nat.zero_le _, by rw [List.length_replicate], (fun i h => absurd h (Nat.not_lt_zero i)), hS10⟩ ?_
 rintro m12 σ13 w11 ⟨k, shk, ρl1, rfl, rfl, hkk, hshl, hshn, hS14⟩
 have hr15 := hS14.row (i := 0) rfl
 have hr15s : shk.length * 32 ≤ 140737488355328 := hr15.2
 refine WP_seq ?_
 refine WP_seq ?_
 refine WP_region0 (by kernel_rfl) (fun _ => ?_)
 refine st (ov_move (v := .int .i64 ((k : Nat) : Int)) rfl ?_)
 refine st (ov_move (v := vc) rfl ?_)
 refine st (ov_len (n := c.length) Tryd.underlying26 rfl hc.sl ?_)
 refine st (ov_lss (k := .i64) (a := ((k : Nat) : Int)) (b := ((c.length : Nat) : Int)) rfl rfl ?_)
 refine st_nil ?_
 cases hc16 : decide (((k : Nat) : Int) < ((c.length : Nat) : Int))
 ·skip
  have hc16 := of_decide_eq_false hc16
  refine WP_cond_f rfl ?_
  refine WP_exit ?_
  refine blk_exit ?_
  refine WP_seq ?_
  refine WP_region0 (by kernel_rfl) (fun _ => ?_)
  refine st (ov_move (v := (.slice (some ⟨b1, 0, none⟩) c.length c.length)) rfl ?_)
  refine st (ov_assign (v := (.slice (some ⟨b1, 0, none⟩) c.length c.length)) rfl ?_)
  refine st_nil ?_
  refine WP_ret ?_
  refine fin1 Tryd.results74 (show _ = ((.slice (some ⟨b1, 0, none⟩) c.length c.length) : Value) from rfl) ?_
  have hkl : k = c.length := by omega
  rw [hkl, List.take_of_length_le (Nat.le_of_eq hshl), List.take_length] at hS14
  have hS17 : Sep G W ((CelW (.slice (some ⟨b1, 0, none⟩) c.length c.length) 42 3 c) :: Rs) w11 := CelW.mk hS14 ⟨hshl, fun i hi => hshn i (by omega)⟩
  refine ⟨(.slice (some ⟨b1, 0, none⟩) c.length c.length), rfl, hS17⟩
 ·skip
  have hc16 := of_decide_eq_true hc16
  refine WP_cond_t rfl ?_
  refine WP_skip ?_
  refine WP_seq ?_
  refine WP_block ?_
  refine WP_draw4 (WF [fun vals wq => Sep G W ((RowE (α := CelS) own 42 (.slice (some ⟨b1, 0, none⟩) c.length c.length) shk) :: (Star (SetRows 3 (shk.take k) (c.take k))) :: Rs) wq, fun vals wq => ∃ (v124 : Value), (vals 12 = (v124 : Value)) ∧ Sep G W ((RowE (α := Int) own 3 v124 ((c.getD k default).set)) :: (RowE (α := CelS) own 42 (.slice (some ⟨b1, 0, none⟩) c.length c.length) shk) :: (Star (SetRows 3 (shk.take k) (c.take k))) :: Rs) wq, fun vals wq => ∃ (v124 : Value), (vals 12 = (v124 : Value)) ∧ Sep G W ((RowE (α := CelS) own 42 (.slice (some ⟨b1, 0, none⟩) c.length c.length) (shk.set k (⟨(c.getD k default).n, v124⟩ : CelS))) :: (RowE (α := Int) own 3 v124 ((c.getD k default).set)) :: (Star (SetRows 3 (shk.take k) (c.take k))) :: Rs) wq]) (AF [Vl 0 ((.slice (some ⟨b1, 0, none⟩) c.length c.length)), Vl 1 (.int .i64 ((k : Nat) : Int)), Vl 2 (vc), Vl 3 (.int .i64 ((k : Nat) : Int)), Vl 4 (.pointer (some ⟨sb vc, so vc + k * 2, none⟩)), Vl 5 (.pointer (some ⟨sb vc, so vc + k * 2, none⟩)), Vl 6 (.int .i64 ((c.getD k default).n)), Vl 7 (vc), Vl 8 (.int .i64 ((k : Nat) : Int)), Vl 9 (.pointer (some ⟨sb vc, so vc + k * 2, none⟩)), Vl 10 (.pointer (some ⟨sb vc, so vc + k * 2 + 1, none⟩)), Vl 11 ((cellV W (sb vc) (so vc + k * 2 + 1))), fun _ => True, fun vals => ∀ (v124 : Value), vals 12 = (v124 : Value) → vals 13 = (.agg #[.int .i64 ((c.getD k default).n), v124] : Value), Vl 14 (.pointer (some ⟨sb (.slice (some ⟨b1, 0, none⟩) c.length c.length), so (.slice (some ⟨b1, 0, none⟩) c.length c.length) + k * 2, none⟩)), fun _ => True]) [[], [], [], [], [2, 3], [2, 3, 4], [2, 3, 4, 5], [], [], [7, 8], [7, 8, 9], [7, 8, 9, 10], [7, 8, 9, 10, 11], [2, 3, 4, 5, 6, 7, 8, 9, 10, 11, 12], [0, 1, 2, 3, 4, 5, 6, 7, 8, 9, 10, 11, 12, 13], [0, 1, 2, 3, 4, 5, 6, 7, 8, 9, 10, 11, 12, 13, 14]] [12, 15] [(0, 1), (0, 1), (0, 1), (0, 1), (0, 1), (0, 1), (0, 1), (0, 0), (0, 0), (0, 0), (0, 0), (0, 0), (0, 0), (1, 1), (1, 1), (1, 1)] (by kernel_rfl) (by kernel_rfl) (by kernel_rfl) rfl (by kernel_rfl) (by kernel_rfl) (fun _ h1 h2 h3 h4 _ => hS14.same h1 h2 h3 h4) ?_ (AF_loc ⟨dA, dA, dA, dA, dA, dA, dA, dA, dA, dA, dA, dA, dT, fun vals vals' hv h => fun v124 hq0 => (hv 13 (.inl rfl)).trans (h v124 ((hv 12 (.inr (by decide))).symm.trans hq0)), dA, dT, trivial⟩) ⟨?_, ?_, ?_, ?_, ?_, ?_, ?_, ?_, ?_, ?_, ?_, ?_, ?_, ?_, ?_, ?_, trivial⟩ ?_
  ·intro k vals vals' w hv h
   have e : ∀ j ∈ ([12, 15] : List Nat), vals' j = vals j := hv
   match k, h with
   | 0, h => exact h
   | 1, h => exact (by simpa only [WF, List.getElem?_cons_zero, List.getElem?_cons_succ, e 12 (by decide)] using h)
   | 2, h => exact (by simpa only [WF, List.getElem?_cons_zero, List.getElem?_cons_succ, e 12 (by decide)] using h)
   | _ + 3, _ => trivial
  ·intro k168 vals w169 h172 h173 hW171 hA170
   refine obl rfl ?_
   exact ov_move (v := (.slice (some ⟨b1, 0, none⟩) c.length c.length)) rfl (fun vals' hv _ => ⟨rfl, hv⟩)
  ·intro k174 vals w175 h178 h179 hW177 hA176
   refine obl rfl ?_
   exact ov_move (v := .int .i64 ((k : Nat) : Int)) rfl (fun vals' hv _ => ⟨rfl, hv⟩)
  ·intro k180 vals w181 h184 h185 hW183 hA182
   refine obl rfl ?_
   exact ov_move (v := vc) rfl (fun vals' hv _ => ⟨rfl, hv⟩)
  ·intro k186 vals w187 h190 h191 hW189 hA188
   refine obl rfl ?_
   exact ov_move (v := .int .i64 ((k : Nat) : Int)) rfl (fun vals' hv _ => ⟨rfl, hv⟩)
  ·intro k192 vals w193 h196 h197 hW195 hA194
   have hkk : k192 = 0 ∨ k192 = 1 := by have h1 : 0 ≤ k192 := h196; have h2 : k192 ≤ 1 := h197; omega
   rcases hkk with rfl | rfl
   ·skip
    have hS198 : Sep G W ((RowE (α := CelS) own 42 (.slice (some ⟨b1, 0, none⟩) c.length c.length) shk) :: (Star (SetRows 3 (shk.take k) (c.take k))) :: Rs) w193 := hW195
    have e199 : vals 2 = (vc : Value) := hA194 2 (by decide)
    have e200 : vals 3 = (.int .i64 ((k : Nat) : Int) : Value) := hA194 3 (by decide)
    refine obl rfl ?_
    have hi201 : k < c.length := (by first | omega | (simp only [lens]; omega))
    exact ov_indexAddrN (k := 2) (i := k) Tryd.underlying26 Tryd.sizeOf42 e199 hc.sl e200 hi201 (fun vals' hv _ => ⟨rfl, hv⟩)
   ·skip
    obtain ⟨v124, he128, hS202⟩ : ∃ (v124 : Value), (vals 12 = (v124 : Value)) ∧ Sep G W ((RowE (α := Int) own 3 v124 ((c.getD k default).set)) :: (RowE (α := CelS) own 42 (.slice (some ⟨b1, 0, none⟩) c.length c.length) shk) :: (Star (SetRows 3 (shk.take k) (c.take k))) :: Rs) w193 := hW195
    have e203 : vals 2 = (vc : Value) := hA194 2 (by decide)
    have e204 : vals 3 = (.int .i64 ((k : Nat) : Int) : Value) := hA194 3 (by decide)
    refine obl rfl ?_
    have hi205 : k < c.length := (by first | omega | (simp only [lens]; omega))
    exact ov_indexAddrN (k := 2) (i := k) Tryd.underlying26 Tryd.sizeOf42 e203 hc.sl e204 hi205 (fun vals' hv _ => ⟨rfl, hv⟩)
  ·intro k206 vals w207 h210 h211 hW209 hA208
   have e212 : vals 4 = (.pointer (some ⟨sb vc, so vc + k * 2, none⟩) : Value) := hA208 4 (by decide)
   refine obl rfl ?_
   exact fd42_0 e212 (fun vals' hv _ => ⟨rfl, hv⟩)
  ·intro k213 vals w214 h217 h218 hW216 hA215
   have hkk : k213 = 0 ∨ k213 = 1 := by have h1 : 0 ≤ k213 := h217; have h2 : k213 ≤ 1 := h218; omega
   rcases hkk with rfl | rfl
   ·skip
    have hS219 : Sep G W ((RowE (α := CelS) own 42 (.slice (some ⟨b1, 0, none⟩) c.length c.length) shk) :: (Star (SetRows 3 (shk.take k) (c.take k))) :: Rs) w214 := hW216
    have e220 : vals 5 = (.pointer (some ⟨sb vc, so vc + k * 2, none⟩) : Value) := hA215 5 (by decide)
    refine obl rfl ?_
    have hi222 : k < c.length := (by first | omega | (simp only [lens]; omega))
    obtain ⟨hce221, hde221_0, hoke221⟩ := hc.cel hi222
    rw [← getD_at default hi222] at hce221 hde221_0 hoke221
    have hsm223 : ((c.getD k default).set).length * 8 ≤ 140737488355328 := hde221_0.small
    have hcw224 := hS219.cells hce221 (hc.foot (ne_of_lt hi222))
    exact ov_load1 (v := .int .i64 ((c.getD k default).n)) Tryd.isAgg3 e220 (hcw224.get (j := 0) rfl) (fun vals' hv _ => ⟨rfl, hv⟩)
   ·skip
    obtain ⟨v124, he128, hS225⟩ : ∃ (v124 : Value), (vals 12 = (v124 : Value)) ∧ Sep G W ((RowE (α := Int) own 3 v124 ((c.getD k default).set)) :: (RowE (α := CelS) own 42 (.slice (some ⟨b1, 0, none⟩) c.length c.length) shk) :: (Star (SetRows 3 (shk.take k) (c.take k))) :: Rs) w214 := hW216
    have e226 : vals 5 = (.pointer (some ⟨sb vc, so vc + k * 2, none⟩) : Value) := hA215 5 (by decide)
    refine obl rfl ?_
    have hi228 : k < c.length := (by first | omega | (simp only [lens]; omega))
    obtain ⟨hce227, hde227_0, hoke227⟩ := hc.cel hi228
    rw [← getD_at default hi228] at hce227 hde227_0 hoke227
    have hsm229 : ((c.getD k default).set).length * 8 ≤ 140737488355328 := hde227_0.small
    have hcw230 := hS225.cells hce227 (hc.foot (ne_of_lt hi228))
    exact ov_load1 (v := .int .i64 ((c.getD k default).n)) Tryd.isAgg3 e226 (hcw230.get (j := 0) rfl) (fun vals' hv _ => ⟨rfl, hv⟩)
  ·intro k231 vals w232 h235 h236 hW234 hA233
   refine obl rfl ?_
   exact ov_move (v := vc) rfl (fun vals' hv _ => ⟨rfl, hv⟩)
  ·intro k237 vals w238 h241 h242 hW240 hA239
   refine obl rfl ?_
   exact ov_move (v := .int .i64 ((k : Nat) : Int)) rfl (fun vals' hv _ => ⟨rfl, hv⟩)
  ·intro k243 vals w244 h247 h248 hW246 hA245
   obtain rfl : k243 = 0 := Nat.le_antisymm h248 h247
   have hS249 : Sep G W ((RowE (α := CelS) own 42 (.slice (some ⟨b1, 0, none⟩) c.length c.length) shk) :: (Star (SetRows 3 (shk.take k) (c.take k))) :: Rs) w244 := hW246
   have e250 : vals 7 = (vc : Value) := hA245 7 (by decide)
   have e251 : vals 8 = (.int .i64 ((k : Nat) : Int) : Value) := hA245 8 (by decide)
   refine obl rfl ?_
   have hi252 : k < c.length := (by first | omega | (simp only [lens]; omega))
   exact ov_indexAddrN (k := 2) (i := k) Tryd.underlying26 Tryd.sizeOf42 e250 hc.sl e251 hi252 (fun vals' hv _ => ⟨rfl, hv⟩)
  ·intro k253 vals w254 h257 h258 hW256 hA255
   have e259 : vals 9 = (.pointer (some ⟨sb vc, so vc + k * 2, none⟩) : Value) := hA255 9 (by decide)
   refine obl rfl ?_
   exact fd42_1 e259 (fun vals' hv _ => ⟨rfl, hv⟩)
  ·intro k260 vals w261 h264 h265 hW263 hA262
   obtain rfl : k260 = 0 := Nat.le_antisymm h265 h264
   have hS266 : Sep G W ((RowE (α := CelS) own 42 (.slice (some ⟨b1, 0, none⟩) c.length c.length) shk) :: (Star (SetRows 3 (shk.take k) (c.take k))) :: Rs) w261 := hW263
   have e267 : vals 10 = (.pointer (some ⟨sb vc, so vc + k * 2 + 1, none⟩) : Value) := hA262 10 (by decide)
   refine obl rfl ?_
   have hi269 : k < c.length := (by first | omega | (simp only [lens]; omega))
   obtain ⟨hce268, hde268_0, hoke268⟩ := hc.cel hi269
   rw [← getD_at default hi269] at hce268 hde268_0 hoke268
   have hsm270 : ((c.getD k default).set).length * 8 ≤ 140737488355328 := hde268_0.small
   have hcw271 := hS266.cells hce268 (hc.foot (ne_of_lt hi269))
   exact ov_load1 (v := (cellV W (sb vc) (so vc + k * 2 + 1))) Tryd.isAgg40 e267 (hcw271.get (j := 1) rfl) (fun vals' hv _ => ⟨rfl, hv⟩)
  ·intro k112 vals w113 h116 h117 hW115 hA114
   obtain rfl : k112 = 0 := Nat.le_antisymm h117 h116
   have hS118 : Sep G W ((RowE (α := CelS) own 42 (.slice (some ⟨b1, 0, none⟩) c.length c.length) shk) :: (Star (SetRows 3 (shk.take k) (c.take k))) :: Rs) w113 := hW115
   have e119 : vals 11 = ((cellV W (sb vc) (so vc + k * 2 + 1)) : Value) := hA114 11 (by decide)
   refine obl rfl ?_
   have hi121 : k < c.length := (by first | omega | (simp only [lens]; omega))
   obtain ⟨hce120, hde120_0, hoke120⟩ := hc.cel hi121
   rw [← getD_at default hi121] at hce120 hde120_0 hoke120
   have hsm122 : ((c.getD k default).set).length * 8 ≤ 140737488355328 := hde120_0.small
   have hcw123 := hS118.cells hce120 (hc.foot (ne_of_lt hi121))
   refine (ov_call (f := 58) (vals := [(cellV W (sb vc) (so vc + k * 2 + 1))]) (cap := []) (show _ = (.func (.func 58) #[] #[] : Value) from rfl) (mapL ⟨e119, trivial⟩) Tryd.call58 (D_CopyInts (l := (c.getD k default).set) (vl := (cellV W (sb vc) (so vc + k * 2 + 1))) hde120_0 hS118) ?_)
   rintro v124 w125 ⟨_, rfl, hS126⟩
   have hr127 := hS126.row (i := 0) rfl
   have hr127s : ((c.getD k default).set).length * 8 ≤ 140737488355328 := hr127.2
   intro vals' hv hv'
   refine ⟨?_, trivial⟩
   show ∃ (v124 : Value), (vals' 12 = (v124 : Value)) ∧ Sep G W ((RowE (α := Int) own 3 v124 ((c.getD k default).set)) :: (RowE (α := CelS) own 42 (.slice (some ⟨b1, 0, none⟩) c.length c.length) shk) :: (Star (SetRows 3 (shk.take k) (c.take k))) :: Rs) w125
   exact ⟨v124, hv, hS126⟩
  ·intro k272 vals w273 h276 h277 hW275 hA274
   obtain rfl : k272 = 1 := Nat.le_antisymm h277 h276
   obtain ⟨v124, he128, hS278⟩ : ∃ (v124 : Value), (vals 12 = (v124 : Value)) ∧ Sep G W ((RowE (α := Int) own 3 v124 ((c.getD k default).set)) :: (RowE (α := CelS) own 42 (.slice (some ⟨b1, 0, none⟩) c.length c.length) shk) :: (Star (SetRows 3 (shk.take k) (c.take k))) :: Rs) w273 := hW275
   have e279 : vals 6 = (.int .i64 ((c.getD k default).n) : Value) := hA274 6 (by decide)
   refine obl rfl ?_
   have hr281 := hS278.row (i := 0) rfl
   have hr281s : ((c.getD k default).set).length * 8 ≤ 140737488355328 := hr281.2
   refine ov_build (parts' := [(0, .int .i64 ((c.getD k default).n)), (1, v124)]) (v := .agg #[.int .i64 ((c.getD k default).n), v124]) (mapP ⟨rfl, e279, rfl, he128, trivial⟩) (by obtain ⟨_, _, hv280, _⟩ := hr281.1; rw [show v124 = Value.slice _ _ _ from hv280]; simp [Instr.build, Instr.fill, Ev.cells, go_sem, Mv.cells, Fld.cells, Typ.cells, Prj.cells, Dcl.cells, Cel.cells, AskR.cells, Ask.cells]) (fun vals' hv hv' => ⟨rfl, ?_⟩)
   intro v124q hq0
   rw [hv' 12 (by decide)] at hq0; cases he128.symm.trans hq0
   exact hv
  ·intro k282 vals w283 h286 h287 hW285 hA284
   obtain rfl : k282 = 1 := Nat.le_antisymm h287 h286
   obtain ⟨v124, he128, hS288⟩ : ∃ (v124 : Value), (vals 12 = (v124 : Value)) ∧ Sep G W ((RowE (α := Int) own 3 v124 ((c.getD k default).set)) :: (RowE (α := CelS) own 42 (.slice (some ⟨b1, 0, none⟩) c.length c.length) shk) :: (Star (SetRows 3 (shk.take k) (c.take k))) :: Rs) w283 := hW285
   have e289 : vals 0 = ((.slice (some ⟨b1, 0, none⟩) c.length c.length) : Value) := hA284 0 (by decide)
   have e290 : vals 1 = (.int .i64 ((k : Nat) : Int) : Value) := hA284 1 (by decide)
   refine obl rfl ?_
   have hi291 : k < shk.length := (by first | omega | (simp only [lens]; omega))
   exact ov_indexAddrN (k := 2) (i := k) Tryd.underlying26 Tryd.sizeOf42 e289 hr15.1 e290 hi291 (fun vals' hv _ => ⟨rfl, hv⟩)
  ·intro k149 vals w150 h153 h154 hW152 hA151
   obtain rfl : k149 = 1 := Nat.le_antisymm h154 h153
   obtain ⟨v124, he128, hS155⟩ : ∃ (v124 : Value), (vals 12 = (v124 : Value)) ∧ Sep G W ((RowE (α := Int) own 3 v124 ((c.getD k default).set)) :: (RowE (α := CelS) own 42 (.slice (some ⟨b1, 0, none⟩) c.length c.length) shk) :: (Star (SetRows 3 (shk.take k) (c.take k))) :: Rs) w150 := hW152
   have e156 : vals 13 = (.agg #[.int .i64 ((c.getD k default).n), v124] : Value) := hA151 13 (by decide) v124 he128
   have e157 : vals 14 = (.pointer (some ⟨sb (.slice (some ⟨b1, 0, none⟩) c.length c.length), so (.slice (some ⟨b1, 0, none⟩) c.length c.length) + k * 2, none⟩) : Value) := hA151 14 (by decide)
   refine obl rfl ?_
   have hi160 : k < c.length := (by first | omega | (simp only [lens]; omega))
   obtain ⟨hce159, hde159_0, hoke159⟩ := hc.cel hi160
   rw [← getD_at default hi160] at hce159 hde159_0 hoke159
   have hsm161 : ((c.getD k default).set).length * 8 ≤ 140737488355328 := hde159_0.small
   have hcw162 := hS155.cells hce159 (hc.foot (ne_of_lt hi160))
   have hr163 := hS155.row (i := 0) rfl
   have hr163s : ((c.getD k default).set).length * 8 ≤ 140737488355328 := hr163.2
   have hS164 : Sep G W ((RowE (α := CelS) own 42 (.slice (some ⟨b1, 0, none⟩) c.length c.length) shk) :: (RowE (α := Int) own 3 v124 ((c.getD k default).set)) :: (Star (SetRows 3 (shk.take k) (c.take k))) :: Rs) w150 := hS155.sel 3 [1, 0, 2] (Nat.le_add_left _ _) rfl rfl
   have hS165 : Sep G W ((RowE (α := CelS) own 42 (.slice (some ⟨b1, 0, none⟩) c.length c.length) shk) :: Emp :: (RowE (α := Int) own 3 v124 ((c.getD k default).set)) :: (Star (SetRows 3 (shk.take k) (c.take k))) :: Rs) w150 := hS164.emp1
   refine (ov_storeS (α := CelS) (j := k) (o := 0) (u := .agg #[.int .i64 ((c.getD k default).n), v124]) (us := [.int .i64 ((c.getD k default).n), v124]) (x1 := (⟨(c.getD k default).n, v124⟩ : CelS)) hS165 Tryd.sizeOf42 (by first | omega | (simp only [lens]; omega)) e157 e156 rfl (Nat.le_of_ble_eq_true rfl) (all1 ⟨rfl, hr163.1.one, trivial⟩) (fun _ _ _ hel _ => (by rw [← getD_at default (by omega)] at hel; obtain ⟨rfl, hok⟩ := hel; exact ⟨rfl, ⟨hoke159.n, hr163.1.one⟩⟩)) ?_)
   intro w158 hS166
   have hr167 := hS166.row (i := 0) rfl
   have hr167s : (shk.set k (⟨(c.getD k default).n, v124⟩ : CelS)).length * 32 ≤ 140737488355328 := hr167.2
   intro vals' hv hv'
   refine ⟨?_, trivial⟩
   show ∃ (v124 : Value), (vals' 12 = (v124 : Value)) ∧ Sep G W ((RowE (α := CelS) own 42 (.slice (some ⟨b1, 0, none⟩) c.length c.length) (shk.set k (⟨(c.getD k default).n, v124⟩ : CelS))) :: (RowE (α := Int) own 3 v124 ((c.getD k default).set)) :: (Star (SetRows 3 (shk.take k) (c.take k))) :: Rs) w158
   exact ⟨v124, (by rw [hv' 12 (by decide)]; exact he128), hS166⟩
  intro vals w292 hW293 hA294
  obtain ⟨v124, he128, hS295⟩ : ∃ (v124 : Value), (vals 12 = (v124 : Value)) ∧ Sep G W ((RowE (α := CelS) own 42 (.slice (some ⟨b1, 0, none⟩) c.length c.length) (shk.set k (⟨(c.getD k default).n, v124⟩ : CelS))) :: (RowE (α := Int) own 3 v124 ((c.getD k default).set)) :: (Star (SetRows 3 (shk.take k) (c.take k))) :: Rs) w292 := hW293
  refine st_env (kv := [(0, vc), (3, (.slice (some ⟨b1, 0, none⟩) c.length c.length)), (4, .int .i64 ((k : Nat) : Int)), (8, .int .i64 ((k : Nat) : Int)), (9, vc), (10, .int .i64 ((c.length : Nat) : Int)), (11, .bool true)]) ⟨rfl, rfl, rfl, rfl, rfl, rfl, rfl, trivial⟩ (fun ρw292 => ?_)
  refine st_nil ?_
  refine WP_region0 (by kernel_rfl) (fun _ => ?_)
  refine st (ov_move (v := .int .i64 ((k : Nat) : Int)) rfl ?_)
  have hr296 : InR ((k + 1 : Nat) : Int) := by first | omega | (simp only [lens]; omega)
  refine st (ov_add (r := ((k + 1 : Nat) : Int)) (k := .i64) (a := ((k : Nat) : Int)) (b := 1) rfl rfl (by rw [show (((k : Nat) : Int) + 1 : Int) = ((k + 1 : Nat) : Int) by first | omega | (simp only [lens]; omega)]; exact wrap_in hr296) ?_)
  refine st (ov_assign (v := .int .i64 ((k + 1 : Nat) : Int)) rfl ?_)
  refine st_nil ?_
  have hS297 : Sep G W ((RowE (α := Int) own 3 v124 ((c.getD k default).set)) :: (Star (SetRows 3 (shk.take k) (c.take k))) :: (RowE (α := CelS) own 42 (.slice (some ⟨b1, 0, none⟩) c.length c.length) (shk.set k (⟨(c.getD k default).n, v124⟩ : CelS))) :: Rs) w292 := hS295.sel 3 [1, 2, 0] (Nat.le_add_left _ _) rfl rfl
  have hS298 : Sep G W ((Star (SetRows 3 (shk.take k) (c.take k) ++ [(RowE (α := Int) own 3 v124 ((c.getD k default).set))])) :: (RowE (α := CelS) own 42 (.slice (some ⟨b1, 0, none⟩) c.length c.length) (shk.set k (⟨(c.getD k default).n, v124⟩ : CelS))) :: Rs) w292 := hS297.snocStar
  rw [← SetRows.step (Ti := 3) (⟨(c.getD k default).n, v124⟩ : CelS) hshl (by omega)] at hS298
  have hS299 : Sep G W ((RowE (α := CelS) own 42 (.slice (some ⟨b1, 0, none⟩) c.length c.length) (shk.set k (⟨(c.getD k default).n, v124⟩ : CelS))) :: (Star (SetRows 3 ((shk.set k ⟨(c.getD k default).n, v124⟩).take (k + 1)) (c.take (k + 1)))) :: Rs) w292 := hS298.sel 2 [1, 0] (Nat.le_add_left _ _) rfl rfl
  exact ⟨_, by omega, k + 1, shk.set k (⟨(c.getD k default).n, v124⟩ : CelS), _, rfl, setAll_self ⟨rfl, rfl, rfl, trivial⟩, by omega, by rw [List.length_set]; exact hshl, (copy_n hshl hshn (by omega)), hS299⟩

end Go.Proofs.YtlblilbmpdejgaaDoor
