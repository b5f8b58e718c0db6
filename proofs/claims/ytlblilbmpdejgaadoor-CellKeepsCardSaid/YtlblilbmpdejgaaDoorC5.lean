/- Steps of the proofs of this seat: part C5. -/
import Derived.Test.YtlblilbmpdejgaaDoorC4
set_option linter.unusedSimpArgs false
set_option linter.unusedVariables false
set_option maxRecDepth 8000
namespace Go.Proofs.YtlblilbmpdejgaaDoor
open Go.Proofs Go.RowKit

theorem SetRows.step {Ti : TypeId} {sh : List CelS} {l : List Cel} {k : Nat} (s : CelS) (hlen : sh.length = l.length) (hk : k < l.length) : SetRows Ti ((sh.set k s).take (k + 1)) (l.take (k + 1)) = SetRows Ti (sh.take k) (l.take k) ++ [RowE (α := Int) own Ti s.v (l.getD k default).set] := by
  have e1 : (sh.set k s).take (k + 1) = sh.take k ++ [s] := by
    rw [List.take_succ_eq_append_getElem (by rw [List.length_set]; omega), List.getElem_set_self, List.take_set_of_le (Nat.le_refl _)]
  have e2 : l.take (k + 1) = l.take k ++ [l.getD k default] := by rw [List.take_succ_eq_append_getElem hk, getD_at _ hk]
  rw [e1, e2]
  exact SetRows.snoc s _ (by rw [List.length_take, List.length_take]; omega)
theorem hshn_set {sh : List CelS} {l : List Cel} {k : Nat} {v : Value} (hlen : sh.length = l.length) (hn : ∀ i, i < l.length → (sh.getD i default).n = (l.getD i default).n) (hk : k < l.length) : ∀ i, i < l.length → ((sh.set k ⟨(sh.getD k default).n, v⟩).getD i default).n = (l.getD i default).n := by
  intro i hi
  have h := (celw_n (s := ⟨(sh.getD k default).n, v⟩) (c := l.getD k default) hlen hn (hn k hk) hk).2 i (by rw [List.length_set]; exact hi)
  rwa [setD_self default hk] at h
theorem doL_none {t : Typ} {c : List Cel} {f op arg : Int} (hf : f.toNat < c.length) (h : op ≠ 1 ∧ op ≠ 2 ∧ op ≠ 3 ∧ op ≠ 4 ∧ op ≠ 5) : doL t c f op arg = c := by
  unfold doL doCel
  rw [if_neg h.1, if_neg h.2.1, if_neg h.2.2.1, if_neg h.2.2.2.1, if_neg h.2.2.2.2]
  exact setD_self default hf
theorem fd96_1 {d : Option Tmp} {ty : TypeId} {pos : String} {af : Array Edge} {g : Option (Nat × Bool)} {σ : Env} {w : World} {K : Value → World → Prop} {x : Operand} {b o : Nat} (hx : ev σ x = .pointer (some ⟨b, o, none⟩)) (h : K (.pointer (some ⟨b, o + 1, none⟩)) w) : opV Tryd.prog ⟨d, .fieldAddr 96 x 1, ty, pos, af, g⟩ σ w K := ov_fieldAddr Tryd.underlying96 rfl rfl (fun w => ⟨0, Tryd.sizeOf94 w⟩) hx h
set_option maxHeartbeats 4000000 in
theorem D_Do {G : Nat → Prop} {W w : World} {Rs : List HP} {t : Typ} {dt0 : Value} (hdt0 : RdS W G dt0 t.fields) (ot : t.Ok) {vc : Value} {c : List Cel} (hc : RdS W G vc c) {f : Int} (hf : InR f) {op : Int} (hop : InR op) {arg : Int} (harg : InR arg) (hS0 : Sep G W Rs w) (hak : AskOk t c f op arg) (hfew : op = 3 → (celAt c f).set.length ≤ 1000) : Ret Tryd.prog 17 [.agg (t.cells dt0).toArray, vc, .int .i64 (f), .int .i64 (op), .int .i64 (arg)] w (fun r w' => ∃ (v : Value), r = (v : Value) ∧ Sep G W ((RowE (α := Cel) own 42 v (doL t c f op arg)) :: Rs) w') := by
 have hdt0s : t.fields.length * 48 ≤ 140737488355328 := hdt0.small
 have hcs : c.length * 32 ≤ 140737488355328 := hc.small
 have hf0 := hak.1; have hf1 := hak.2.1; have hf2 := hak.2.2.1
 refine Calls_of_WP (args := [.agg (t.cells dt0).toArray, vc, .int .i64 (f), .int .i64 (op), .int .i64 (arg)]) Tryd.func17 rfl rfl ?_
 refine WP_seq ?_
 refine WP_region0 (by kernel_rfl) (fun _ => ?_)
 refine st (ov_box (v := .agg (t.cells dt0).toArray) rfl ?_)
 intro w3 b2 hn1
 have hS4 : Sep G W ((Blk b2 (t.cells dt0).toArray 33) :: Rs) w3 := hS0.new hn1
 refine st (ov_assign (v := (.slice none 0 0)) rfl ?_)
 refine st_nil ?_
 refine WP_seq ?_
 refine WP_region0 (by kernel_rfl) (fun _ => ?_)
 refine st (ov_move (v := vc) rfl ?_)
 refine st (ov_call (f := 53) (vals := [vc]) (cap := []) (show _ = (.func (.func 53) #[] #[] : Value) from rfl) rfl Tryd.call53 (D_cloneCel (l := c) (vl := vc) hc hS4) ?_)
 rintro v5 w6 ⟨_, rfl, hS7⟩
 have hr8 := hS7.row (i := 0) rfl
 have hr8s : c.length * 32 ≤ 140737488355328 := hr8.2
 obtain ⟨sh9, hl10, hn11, hS12⟩ := hS7.celShare
 have hS12t : Sep G W ((RowE (α := CelS) own 42 v5 sh9) :: (Blk b2 (t.cells dt0).toArray 33) :: Rs) w6 := hS12
 have hr13 := hS12t.row (i := 0) rfl
 have hr13s : sh9.length * 32 ≤ 140737488355328 := hr13.2
 refine st (ov_assign (v := v5) rfl ?_)
 refine st_nil ?_
 refine WP_seq ?_
 refine WP_seq ?_
 refine WP_region0 (by kernel_rfl) (fun _ => ?_)
 refine st (ov_move (v := v5) rfl ?_)
 refine st (ov_len (n := sh9.length) Tryd.underlying26 rfl hr13.1 ?_)
 refine st (ov_move (v := .int .i64 (0)) rfl ?_)
 refine st_nil ?_
 refine WP_block ?_
 have hS14 : Sep G W ((Star []) :: (RowE (α := CelS) own 42 v5 sh9) :: (Blk b2 (t.cells dt0).toArray 33) :: Rs) w6 := hS12t.nilStar
 have hS15 : Sep G W ((RowE (α := CelS) own 42 v5 sh9) :: (Star []) :: (Blk b2 (t.cells dt0).toArray 33) :: Rs) w6 := hS14.sel 3 [1, 0, 2] (Nat.le_add_left _ _) rfl rfl
 refine WP_loop (fun mq σ wq => ∃ (k : Nat) (shk : List CelS) (ρ : Env), mq = c.length - k ∧ σ = setAll ρ [(1, vc), (2, .int .i64 (f)), (3, .int .i64 (op)), (4, .int .i64 (arg)), (5, .pointer (some ⟨b2, 0, none⟩)), (10, (.slice none 0 0)), (11, v5), (18, .int .i64 ((sh9.length : Nat) : Int)), (19, .int .i64 ((k : Nat) : Int))] ∧ (k ≤ c.length) ∧ (shk.length = c.length) ∧ (∀ i, i < c.length → (shk.getD i default).n = (c.getD i default).n) ∧ Sep G W ((RowE (α := CelS) own 42 v5 shk) :: (Star (SetRows 3 (shk.take k) (c.take k))) :: (Blk b2 (t.cells dt0).toArray 33) :: Rs) wq) ⟨0, sh9, _, rfl, setAll_self ⟨rfl, rfl, rfl, rfl, rfl, rfl, rfl, rfl, rfl, trivial⟩, Nat.zero_le _, hl10, (fun i h => (hn11 i h).1), hS15⟩ ?_
 rintro m17 σ18 w16 ⟨k, shk, ρl1, rfl, rfl, hkk, hshl, hshn, hS19⟩
 have hr20 := hS19.row (i := 0) rfl
 have hr20s : shk.length * 32 ≤ 140737488355328 := hr20.2
 refine WP_seq ?_
 refine WP_region0 (by kernel_rfl) (fun _ => ?_)
 refine st (ov_lss (k := .i64) (a := ((k : Nat) : Int)) (b := ((sh9.length : Nat) : Int)) rfl rfl ?_)
 refine st_nil ?_
 refine WP_seq ?_
 cases hc21 : decide (((k : Nat) : Int) < ((sh9.length : Nat) : Int))
 ·skip
  have hc21 := of_decide_eq_false hc21
  refine WP_cond_f rfl ?_
  refine WP_exit ?_
  refine blk_exit ?_
  refine WP_seq ?_
  refine WP_seq ?_
  refine WP_region0 (by kernel_rfl) (fun _ => ?_)
  have hkl : k = c.length := by omega
  rw [hkl] at hS19
  rw [List.take_of_length_le (Nat.le_of_eq hshl), List.take_length] at hS19
  have hS22 : Sep G W ((CelW v5 42 3 c) :: (Blk b2 (t.cells dt0).toArray 33) :: Rs) w16 := CelW.mk hS19 ⟨hshl, hshn⟩
  refine st (ov_call (f := 52) (vals := []) (cap := []) (show _ = (.func (.func 52) #[] #[] : Value) from rfl) rfl Tryd.call52 (D_rules  hS22) ?_)
  rintro _ w24 ⟨m23, rfl, hS25⟩
  refine st (ov_move (v := .int .i64 (op)) rfl ?_)
  have hops : (op = 1 ∨ op = 2 ∨ op = 3 ∨ op = 4 ∨ op = 5) ∨ (op ≠ 1 ∧ op ≠ 2 ∧ op ≠ 3 ∧ op ≠ 4 ∧ op ≠ 5) := by omega
  rcases hops with hop | hop
  ·skip
   obtain ⟨rx, hrx⟩ := rule_some hop
   refine st (ov_lookupSome (α := Rul) (a := rx) Tryd.underlying98 Tryd.underlying3 rfl rfl (hS25.map_ (i := 0) rfl) hrx ?_)
   rintro _ rfl
   refine st (ov_move (v := .tuple #[.agg #[.func (.func rx.may) #[] #[], .func (.func rx.does) #[] #[]], .bool true]) rfl ?_)
   refine st (ov_extract (vs := [.agg #[.func (.func rx.may) #[] #[], .func (.func rx.does) #[] #[]], .bool true]) (i := 0) (v := .agg #[.func (.func rx.may) #[] #[], .func (.func rx.does) #[] #[]]) rfl rfl ?_)
   refine st (ov_extract (vs := [.agg #[.func (.func rx.may) #[] #[], .func (.func rx.does) #[] #[]], .bool true]) (i := 1) (v := .bool true) rfl rfl ?_)
   refine st (ov_alloc Tryd.zeroValue96 ?_)
   intro w28 b27 hn26
   have hS29 : Sep G W ((Blk b27 #[.nilFunc, .nilFunc] 96) :: (MapH (α := Rul) m23 ruleL) :: (CelW v5 42 3 c) :: (Blk b2 (t.cells dt0).toArray 33) :: Rs) w28 := hS25.new hn26
   refine stn (ov_store (v := .agg #[.func (.func rx.may) #[] #[], .func (.func rx.does) #[] #[]]) (c' := #[.func (.func rx.may) #[] #[], .func (.func rx.does) #[] #[]]) Tryd.sizeOf96 rfl rfl (hS29.blk (i := 0) rfl) (all1 ⟨rfl, rfl, trivial⟩) (Nat.le_of_ble_eq_true rfl) rfl ?_)
   intro w30 hp31
   have hS32 : Sep G W ((Blk b27 #[.func (.func rx.may) #[] #[], .func (.func rx.does) #[] #[]] 96) :: (MapH (α := Rul) m23 ruleL) :: (CelW v5 42 3 c) :: (Blk b2 (t.cells dt0).toArray 33) :: Rs) w30 := hS29.put (i := 0) rfl hp31
   refine st (ov_assign (v := .bool true) rfl ?_)
   refine st_nil ?_
   refine WP_seq ?_
   refine WP_region0 (by kernel_rfl) (fun _ => ?_)
   refine st (ov_move (v := .bool true) rfl ?_)
   refine st_nil ?_
   refine WP_cond_t rfl ?_
   refine WP_draw4 (WF [fun vals wq => Sep G W ((Blk b27 #[.func (.func rx.may) #[] #[], .func (.func rx.does) #[] #[]] 96) :: (MapH (α := Rul) m23 ruleL) :: (CelW v5 42 3 c) :: (Blk b2 (t.cells dt0).toArray 33) :: Rs) wq, fun vals wq => (vals 11 = (.tuple #[] : Value)) ∧ Sep G W ((CelW v5 42 3 (c.set f.toNat (doCel (t.fields.getD f.toNat default) (celAt c f) op arg))) :: (Blk b27 #[.func (.func rx.may) #[] #[], .func (.func rx.does) #[] #[]] 96) :: (MapH (α := Rul) m23 ruleL) :: (Blk b2 (t.cells dt0).toArray 33) :: Rs) wq]) (AF [Vl 0 (.pointer (some ⟨b27, 1, none⟩)), Vl 1 (.func (.func rx.does) #[] #[]), Vl 2 (.pointer (some ⟨b2, 0, none⟩)), Vl 3 (dt0), Vl 4 (.int .i64 (f)), Vl 5 (.pointer (some ⟨sb dt0, so dt0 + f.toNat * 4, none⟩)), Vl 6 (.agg ((t.fields.getD f.toNat default).cells (cellV W (sb dt0) (so dt0 + f.toNat * 4 + 3))).toArray), Vl 7 (v5), Vl 8 (.int .i64 (f)), Vl 9 (.int .i64 (arg)), Vl 10 (.agg #[.int .i64 ((t.fields.getD f.toNat default).kind), .int .i64 ((t.fields.getD f.toNat default).policy), .bool ((t.fields.getD f.toNat default).floor), (cellV W (sb dt0) (so dt0 + f.toNat * 4 + 3)), v5, .int .i64 (f), .int .i64 (arg)]), fun _ => True]) [[], [0], [], [2], [], [2, 3, 4], [2, 3, 4, 5], [], [], [], [2, 3, 4, 5, 6, 7, 8, 9], [0, 1, 2, 3, 4, 5, 6, 7, 8, 9, 10]] [11] [(0, 0), (0, 0), (0, 0), (0, 0), (0, 0), (0, 0), (0, 0), (0, 0), (0, 0), (0, 0), (0, 0), (0, 0)] (by kernel_rfl) (by kernel_rfl) (by kernel_rfl) rfl (by kernel_rfl) (by kernel_rfl) (fun _ h1 h2 h3 h4 _ => hS32.same h1 h2 h3 h4) ?_ (AF_loc ⟨dA, dA, dA, dA, dA, dA, dA, dA, dA, dA, dA, dT, trivial⟩) ⟨?_, ?_, ?_, ?_, ?_, ?_, ?_, ?_, ?_, ?_, ?_, ?_, trivial⟩ ?_
   ·intro k vals vals' w hv h
    have e : ∀ j ∈ ([11] : List Nat), vals' j = vals j := hv
    match k, h with
    | 0, h => exact h
    | 1, h => exact (by simpa only [WF, List.getElem?_cons_zero, List.getElem?_cons_succ, e 11 (by decide)] using h)
    | _ + 2, _ => trivial
   ·intro k135 vals w136 h139 h140 hW138 hA137
    refine obl rfl ?_
    exact fd96_1 rfl (fun vals' hv _ => ⟨rfl, hv⟩)
   ·intro k141 vals w142 h145 h146 hW144 hA143
    obtain rfl : k141 = 0 := Nat.le_antisymm h146 h145
    have hS147 : Sep G W ((Blk b27 #[.func (.func rx.may) #[] #[], .func (.func rx.does) #[] #[]] 96) :: (MapH (α := Rul) m23 ruleL) :: (CelW v5 42 3 c) :: (Blk b2 (t.cells dt0).toArray 33) :: Rs) w142 := hW144
    have e148 : vals 0 = (.pointer (some ⟨b27, 1, none⟩) : Value) := hA143 0 (by decide)
    refine obl rfl ?_
    exact ov_load1 (v := .func (.func rx.does) #[] #[]) Tryd.isAgg94 e148 (blk_cellL (hS147.blk (i := 0) rfl) rfl) (fun vals' hv _ => ⟨rfl, hv⟩)
   ·intro k149 vals w150 h153 h154 hW152 hA151
    refine obl rfl ?_
    exact fd33_0 rfl (fun vals' hv _ => ⟨rfl, hv⟩)
   ·intro k155 vals w156 h159 h160 hW158 hA157
    obtain rfl : k155 = 0 := Nat.le_antisymm h160 h159
    have hS161 : Sep G W ((Blk b27 #[.func (.func rx.may) #[] #[], .func (.func rx.does) #[] #[]] 96) :: (MapH (α := Rul) m23 ruleL) :: (CelW v5 42 3 c) :: (Blk b2 (t.cells dt0).toArray 33) :: Rs) w156 := hW158
    have e162 : vals 2 = (.pointer (some ⟨b2, 0, none⟩) : Value) := hA157 2 (by decide)
    refine obl rfl ?_
    exact ov_load1 (v := dt0) Tryd.isAgg31 e162 (blk_cellL (hS161.blk (i := 3) rfl) rfl) (fun vals' hv _ => ⟨rfl, hv⟩)
   ·intro k163 vals w164 h167 h168 hW166 hA165
    refine obl rfl ?_
    exact ov_move (v := .int .i64 (f)) rfl (fun vals' hv _ => ⟨rfl, hv⟩)
   ·intro k169 vals w170 h173 h174 hW172 hA171
    obtain rfl : k169 = 0 := Nat.le_antisymm h174 h173
    have hS175 : Sep G W ((Blk b27 #[.func (.func rx.may) #[] #[], .func (.func rx.does) #[] #[]] 96) :: (MapH (α := Rul) m23 ruleL) :: (CelW v5 42 3 c) :: (Blk b2 (t.cells dt0).toArray 33) :: Rs) w170 := hW172
    have e176 : vals 3 = (dt0 : Value) := hA171 3 (by decide)
    have e177 : vals 4 = (.int .i64 (f) : Value) := hA171 4 (by decide)
    refine obl rfl ?_
    have hi178 : f.toNat < t.fields.length := (by have h1 := hak.1; have h2 := hak.2.1; have h3 := hak.2.2.1; omega)
    exact ov_indexAddr (k := 4) (i := f) Tryd.underlying31 Tryd.sizeOf79 e176 hdt0.sl e177 ⟨by omega, by omega⟩ (fun vals' hv _ => ⟨rfl, hv⟩)
   ·intro k179 vals w180 h183 h184 hW182 hA181
    obtain rfl : k179 = 0 := Nat.le_antisymm h184 h183
    have hS185 : Sep G W ((Blk b27 #[.func (.func rx.may) #[] #[], .func (.func rx.does) #[] #[]] 96) :: (MapH (α := Rul) m23 ruleL) :: (CelW v5 42 3 c) :: (Blk b2 (t.cells dt0).toArray 33) :: Rs) w180 := hW182
    have e186 : vals 5 = (.pointer (some ⟨sb dt0, so dt0 + f.toNat * 4, none⟩) : Value) := hA181 5 (by decide)
    refine obl rfl ?_
    have hi188 : f.toNat < t.fields.length := (by have h1 := hak.1; have h2 := hak.2.1; have h3 := hak.2.2.1; omega)
    obtain ⟨hce187, hde187_0, hoke187⟩ := hdt0.fld hi188
    rw [← getD_at default hi188] at hce187 hde187_0 hoke187
    have hsm189 : ((t.fields.getD f.toNat default).moves).length * 32 ≤ 140737488355328 := hde187_0.small
    have hcw190 := hS185.cells hce187 (hdt0.foot (ne_of_lt hi188))
    exact ov_loadk (k := 4) Tryd.isAgg79 Tryd.sizeOf79 rfl e186 hcw190 (fun vals' hv _ => ⟨rfl, hv⟩)
   ·intro k191 vals w192 h195 h196 hW194 hA193
    refine obl rfl ?_
    exact ov_move (v := v5) rfl (fun vals' hv _ => ⟨rfl, hv⟩)
   ·intro k197 vals w198 h201 h202 hW200 hA199
    refine obl rfl ?_
    exact ov_move (v := .int .i64 (f)) rfl (fun vals' hv _ => ⟨rfl, hv⟩)
   ·intro k203 vals w204 h207 h208 hW206 hA205
    refine obl rfl ?_
    exact ov_move (v := .int .i64 (arg)) rfl (fun vals' hv _ => ⟨rfl, hv⟩)
   ·intro k209 vals w210 h213 h214 hW212 hA211
    have e215 : vals 6 = (.agg ((t.fields.getD f.toNat default).cells (cellV W (sb dt0) (so dt0 + f.toNat * 4 + 3))).toArray : Value) := hA211 6 (by decide)
    have e216 : vals 7 = (v5 : Value) := hA211 7 (by decide)
    have e217 : vals 8 = (.int .i64 (f) : Value) := hA211 8 (by decide)
    have e218 : vals 9 = (.int .i64 (arg) : Value) := hA211 9 (by decide)
    refine obl rfl ?_
    exact ov_build (parts' := [(0, .agg ((t.fields.getD f.toNat default).cells (cellV W (sb dt0) (so dt0 + f.toNat * 4 + 3))).toArray), (1, v5), (2, .int .i64 (f)), (3, .int .i64 (arg))]) (v := .agg #[.int .i64 ((t.fields.getD f.toNat default).kind), .int .i64 ((t.fields.getD f.toNat default).policy), .bool ((t.fields.getD f.toNat default).floor), (cellV W (sb dt0) (so dt0 + f.toNat * 4 + 3)), v5, .int .i64 (f), .int .i64 (arg)]) (mapP ⟨rfl, e215, rfl, e216, rfl, e217, rfl, e218, trivial⟩) (by obtain ⟨_, _, hv219, _⟩ := hr20.1; rw [show v5 = Value.slice _ _ _ from hv219]; simp [Instr.build, Instr.fill, Ev.cells, go_sem, Mv.cells, Fld.cells, Typ.cells, Prj.cells, Dcl.cells, Cel.cells, AskR.cells, Ask.cells]) (fun vals' hv _ => ⟨rfl, hv⟩)
   ·intro k118 vals w119 h122 h123 hW121 hA120
    obtain rfl : k118 = 0 := Nat.le_antisymm h123 h122
    have hS124 : Sep G W ((Blk b27 #[.func (.func rx.may) #[] #[], .func (.func rx.does) #[] #[]] 96) :: (MapH (α := Rul) m23 ruleL) :: (CelW v5 42 3 c) :: (Blk b2 (t.cells dt0).toArray 33) :: Rs) w119 := hW121
    have e125 : vals 1 = (.func (.func rx.does) #[] #[] : Value) := hA120 1 (by decide)
    have e126 : vals 10 = (.agg #[.int .i64 ((t.fields.getD f.toNat default).kind), .int .i64 ((t.fields.getD f.toNat default).policy), .bool ((t.fields.getD f.toNat default).floor), (cellV W (sb dt0) (so dt0 + f.toNat * 4 + 3)), v5, .int .i64 (f), .int .i64 (arg)] : Value) := hA120 10 (by decide)
    refine obl rfl ?_
    have hS127 : Sep G W ((CelW v5 42 3 c) :: (Blk b27 #[.func (.func rx.may) #[] #[], .func (.func rx.does) #[] #[]] 96) :: (MapH (α := Rul) m23 ruleL) :: (Blk b2 (t.cells dt0).toArray 33) :: Rs) w119 := hS124.sel 4 [2, 0, 1, 3] (Nat.le_add_left _ _) rfl rfl
    have hi129 : f.toNat < t.fields.length := (by have h1 := hak.1; have h2 := hak.2.1; have h3 := hak.2.2.1; omega)
    obtain ⟨hce128, hde128_0, hoke128⟩ := hdt0.fld hi129
    rw [← getD_at default hi129] at hce128 hde128_0 hoke128
    have hsm130 : ((t.fields.getD f.toNat default).moves).length * 32 ≤ 140737488355328 := hde128_0.small
    have hcw131 := hS127.cells hce128 (hdt0.foot (ne_of_lt hi129))
    refine (ov_call (f := rx.does) (vals := [.agg #[.int .i64 ((t.fields.getD f.toNat default).kind), .int .i64 ((t.fields.getD f.toNat default).policy), .bool ((t.fields.getD f.toNat default).floor), (cellV W (sb dt0) (so dt0 + f.toNat * 4 + 3)), v5, .int .i64 (f), .int .i64 (arg)]]) (cap := []) (show _ = (.func (.func rx.does) #[] #[] : Value) from e125) (mapL ⟨e126, trivial⟩) (rule_call hop hrx).2 (D_rdo  hS127 (⟨hak.1, hak.2.2.1⟩) (hf) (harg) (hrx) (hop) (hde128_0) (⟨hak.2.2.2.1, fun h => ⟨(hak.2.2.2.2 h).1, (hak.2.2.2.2 h).2.1⟩⟩) (hfew)) ?_)
    rintro _ w132 ⟨rfl, hS133⟩
    intro vals' hv hv'
    refine ⟨?_, trivial⟩
    show (vals' 11 = (.tuple #[] : Value)) ∧ Sep G W ((CelW v5 42 3 (c.set f.toNat (doCel (t.fields.getD f.toNat default) (celAt c f) op arg))) :: (Blk b27 #[.func (.func rx.may) #[] #[], .func (.func rx.does) #[] #[]] 96) :: (MapH (α := Rul) m23 ruleL) :: (Blk b2 (t.cells dt0).toArray 33) :: Rs) w132
    exact ⟨hv, hS133⟩
   intro vals w220 hW221 hA222
   obtain ⟨he134, hS223⟩ : (vals 11 = (.tuple #[] : Value)) ∧ Sep G W ((CelW v5 42 3 (c.set f.toNat (doCel (t.fields.getD f.toNat default) (celAt c f) op arg))) :: (Blk b27 #[.func (.func rx.may) #[] #[], .func (.func rx.does) #[] #[]] 96) :: (MapH (α := Rul) m23 ruleL) :: (Blk b2 (t.cells dt0).toArray 33) :: Rs) w220 := hW221
   refine st_env (kv := [(1, vc), (2, .int .i64 (f)), (3, .int .i64 (op)), (4, .int .i64 (arg)), (5, .pointer (some ⟨b2, 0, none⟩)), (10, (.slice none 0 0)), (11, v5), (18, .int .i64 ((sh9.length : Nat) : Int)), (19, .int .i64 ((k : Nat) : Int)), (20, .bool false), (34, .map (some m23)), (35, .int .i64 (op)), (36, .tuple #[.agg #[.func (.func rx.may) #[] #[], .func (.func rx.does) #[] #[]], .bool true]), (33, .tuple #[.agg #[.func (.func rx.may) #[] #[], .func (.func rx.does) #[] #[]], .bool true]), (37, .agg #[.func (.func rx.may) #[] #[], .func (.func rx.does) #[] #[]]), (38, .bool true), (13, .pointer (some ⟨b27, 0, none⟩)), (14, .bool true), (39, .bool true)]) ⟨rfl, rfl, rfl, rfl, rfl, rfl, rfl, rfl, rfl, rfl, rfl, rfl, rfl, rfl, rfl, rfl, rfl, rfl, rfl, trivial⟩ (fun ρw220 => ?_)
   refine st_nil ?_
   refine WP_seq ?_
   refine WP_region0 (by kernel_rfl) (fun _ => ?_)
   refine st (ov_move (v := v5) rfl ?_)
   refine st (ov_assign (v := v5) rfl ?_)
   refine st_nil ?_
   refine WP_ret ?_
   refine fin1 Tryd.results17 (show _ = (v5 : Value) from rfl) ?_
   have hS224 : Sep G W ((RowE (α := Cel) own 42 v5 (c.set f.toNat (doCel (t.fields.getD f.toNat default) (celAt c f) op arg))) :: (Blk b27 #[.func (.func rx.may) #[] #[], .func (.func rx.does) #[] #[]] 96) :: (MapH (α := Rul) m23 ruleL) :: (Blk b2 (t.cells dt0).toArray 33) :: Rs) w220 := CelW.row hS223
   have hS225 : Sep G W ((RowE (α := Cel) own 42 v5 (doL t c f op arg)) :: (Blk b27 #[.func (.func rx.may) #[] #[], .func (.func rx.does) #[] #[]] 96) :: (MapH (α := Rul) m23 ruleL) :: (Blk b2 (t.cells dt0).toArray 33) :: Rs) w220 := hS224
   have hS226 : Sep G W ((RowE (α := Cel) own 42 v5 (doL t c f op arg)) :: Rs) w220 := hS225.sel 4 [0] (Nat.le_add_left _ _) rfl rfl
   refine ⟨v5, rfl, hS226⟩
  ·skip
   refine st (ov_lookupNone (α := Rul) (zc := [.nilFunc, .nilFunc]) Tryd.underlying98 Tryd.underlying3 Tryd.zeroValue96 rfl rfl (hS25.map_ (i := 0) rfl) (ruleL_none hop) ?_)
   refine st (ov_move (v := .tuple #[.agg #[.nilFunc, .nilFunc], .bool false]) rfl ?_)
   refine st (ov_extract (vs := [.agg #[.nilFunc, .nilFunc], .bool false]) (i := 0) (v := .agg #[.nilFunc, .nilFunc]) rfl rfl ?_)
   refine st (ov_extract (vs := [.agg #[.nilFunc, .nilFunc], .bool false]) (i := 1) (v := .bool false) rfl rfl ?_)
   refine st (ov_alloc Tryd.zeroValue96 ?_)
   intro w229 b228 hn227
   have hS230 : Sep G W ((Blk b228 #[.nilFunc, .nilFunc] 96) :: (MapH (α := Rul) m23 ruleL) :: (CelW v5 42 3 c) :: (Blk b2 (t.cells dt0).toArray 33) :: Rs) w229 := hS25.new hn227
   refine stn (ov_store (v := .agg #[.nilFunc, .nilFunc]) (c' := #[.nilFunc, .nilFunc]) Tryd.sizeOf96 rfl rfl (hS230.blk (i := 0) rfl) (all1 ⟨rfl, rfl, trivial⟩) (Nat.le_of_ble_eq_true rfl) rfl ?_)
   intro w231 hp232
   have hS233 : Sep G W ((Blk b228 #[.nilFunc, .nilFunc] 96) :: (MapH (α := Rul) m23 ruleL) :: (CelW v5 42 3 c) :: (Blk b2 (t.cells dt0).toArray 33) :: Rs) w231 := hS230.put (i := 0) rfl hp232
   refine st (ov_assign (v := .bool false) rfl ?_)
   refine st_nil ?_
   refine WP_seq ?_
   refine WP_region0 (by kernel_rfl) (fun _ => ?_)
   refine st (ov_move (v := .bool false) rfl ?_)
   refine st_nil ?_
   refine WP_cond_f rfl ?_
   refine WP_skip ?_
   refine WP_seq ?_
   refine WP_region0 (by kernel_rfl) (fun _ => ?_)
   refine st (ov_move (v := v5) rfl ?_)
   refine st (ov_assign (v := v5) rfl ?_)
   refine st_nil ?_
   refine WP_ret ?_
   refine fin1 Tryd.results17 (show _ = (v5 : Value) from rfl) ?_
   have hS234 : Sep G W ((CelW v5 42 3 c) :: (Blk b228 #[.nilFunc, .nilFunc] 96) :: (MapH (α := Rul) m23 ruleL) :: (Blk b2 (t.cells dt0).toArray 33) :: Rs) w231 := hS233.sel 4 [2, 0, 1, 3] (Nat.le_add_left _ _) rfl rfl
   have hS235 : Sep G W ((RowE (α := Cel) own 42 v5 c) :: (Blk b228 #[.nilFunc, .nilFunc] 96) :: (MapH (α := Rul) m23 ruleL) :: (Blk b2 (t.cells dt0).toArray 33) :: Rs) w231 := CelW.row hS234
   have hS236 : Sep G W ((RowE (α := Cel) own 42 v5 (doL t c f op arg)) :: (Blk b228 #[.nilFunc, .nilFunc] 96) :: (MapH (α := Rul) m23 ruleL) :: (Blk b2 (t.cells dt0).toArray 33) :: Rs) w231 := by rw [doL_none (by omega) hop]; exact hS235
   have hS237 : Sep G W ((RowE (α := Cel) own 42 v5 (doL t c f op arg)) :: Rs) w231 := hS236.sel 4 [0] (Nat.le_add_left _ _) rfl rfl
   refine ⟨v5, rfl, hS237⟩
 ·skip
  have hc21 := of_decide_eq_true hc21
  refine WP_cond_t rfl ?_
  refine WP_skip ?_
  refine WP_seq ?_
  refine WP_block ?_
  refine WP_seq ?_
  refine WP_region0 (by kernel_rfl) (fun _ => ?_)
  refine st (ov_move (v := .int .i64 ((k : Nat) : Int)) rfl ?_)
  refine st (ov_assign (v := .int .i64 ((k : Nat) : Int)) rfl ?_)
  refine st_nil ?_
  refine WP_region0 (by kernel_rfl) (fun _ => ?_)
  refine st (ov_move (v := v5) rfl ?_)
  refine st (ov_move (v := .int .i64 ((k : Nat) : Int)) rfl ?_)
  refine st (ov_move (v := vc) rfl ?_)
  refine st (ov_move (v := .int .i64 ((k : Nat) : Int)) rfl ?_)
  have hi238 : k < c.length := (by have h1 := hak.1; have h2 := hak.2.1; have h3 := hak.2.2.1; omega)
  refine st (ov_indexAddrN (k := 2) (i := k) Tryd.underlying26 Tryd.sizeOf42 rfl hc.sl rfl hi238 ?_)
  refine st (fd42_1 rfl ?_)
  have hi240 : k < c.length := (by have h1 := hak.1; have h2 := hak.2.1; have h3 := hak.2.2.1; omega)
  obtain ⟨hce239, hde239_0, hoke239⟩ := hc.cel hi240
  rw [← getD_at default hi240] at hce239 hde239_0 hoke239
  have hsm241 : ((c.getD k default).set).length * 8 ≤ 140737488355328 := hde239_0.small
  have hcw242 := hS19.cells hce239 (hc.foot (ne_of_lt hi240))
  refine st (ov_load1 (v := (cellV W (sb vc) (so vc + k * 2 + 1))) Tryd.isAgg40 rfl (hcw242.get (j := 1) rfl) ?_)
  refine st (ov_call (f := 54) (vals := [(cellV W (sb vc) (so vc + k * 2 + 1))]) (cap := []) (show _ = (.func (.func 54) #[] #[] : Value) from rfl) rfl Tryd.call54 (D_cloneInt (l := (c.getD k default).set) (vl := (cellV W (sb vc) (so vc + k * 2 + 1))) hde239_0 hS19) ?_)
  rintro v243 w244 ⟨_, rfl, hS245⟩
  have hr246 := hS245.row (i := 0) rfl
  have hr246s : ((c.getD k default).set).length * 8 ≤ 140737488355328 := hr246.2
  have hi247 : k < shk.length := (by have h1 := hak.1; have h2 := hak.2.1; have h3 := hak.2.2.1; omega)
  refine st (ov_indexAddrN (k := 2) (i := k) Tryd.underlying26 Tryd.sizeOf42 rfl hr20.1 rfl hi247 ?_)
  refine st (fd42_1 rfl ?_)
  have hS249 : Sep G W ((RowE (α := CelS) own 42 v5 shk) :: (RowE (α := Int) own 3 v243 ((c.getD k default).set)) :: (Star (SetRows 3 (shk.take k) (c.take k))) :: (Blk b2 (t.cells dt0).toArray 33) :: Rs) w244 := hS245.sel 4 [1, 0, 2, 3] (Nat.le_add_left _ _) rfl rfl
  have hS250 : Sep G W ((RowE (α := CelS) own 42 v5 shk) :: Emp :: (RowE (α := Int) own 3 v243 ((c.getD k default).set)) :: (Star (SetRows 3 (shk.take k) (c.take k))) :: (Blk b2 (t.cells dt0).toArray 33) :: Rs) w244 := hS249.emp1
  refine stn (ov_storeS (α := CelS) (j := k) (o := 1) (u := v243) (us := [v243]) (x1 := (⟨(shk.getD k default).n, v243⟩ : CelS)) hS250 Tryd.sizeOf40 (by first | omega | (simp only [lens]; omega)) rfl rfl (congrArg Array.toList (oneCell_cells hr246.1.one)) (Nat.le_of_ble_eq_true rfl) (all1 ⟨hr246.1.one, trivial⟩) (fun _ _ _ hel _ => (by rw [← getD_at default (by omega)] at hel; obtain ⟨rfl, hok⟩ := hel; exact ⟨rfl, ⟨hok.n, hr246.1.one⟩⟩)) ?_)
  intro w248 hS251
  have hr252 := hS251.row (i := 0) rfl
  have hr252s : (shk.set k (⟨(shk.getD k default).n, v243⟩ : CelS)).length * 32 ≤ 140737488355328 := hr252.2
  refine st_nil ?_
  refine WP_region0 (by kernel_rfl) (fun _ => ?_)
  have hr253 : InR ((k + 1 : Nat) : Int) := by first | omega | (simp only [lens]; omega)
  refine st (ov_add (r := ((k + 1 : Nat) : Int)) (k := .i64) (a := ((k : Nat) : Int)) (b := 1) rfl rfl (by rw [show (((k : Nat) : Int) + 1 : Int) = ((k + 1 : Nat) : Int) by first | omega | (simp only [lens]; omega)]; exact wrap_in hr253) ?_)
  refine st (ov_move (v := .int .i64 ((k + 1 : Nat) : Int)) rfl ?_)
  refine st_nil ?_
  have hS254 : Sep G W ((RowE (α := Int) own 3 v243 ((c.getD k default).set)) :: (Star (SetRows 3 (shk.take k) (c.take k))) :: (RowE (α := CelS) own 42 v5 (shk.set k (⟨(shk.getD k default).n, v243⟩ : CelS))) :: (Blk b2 (t.cells dt0).toArray 33) :: Rs) w248 := hS251.sel 4 [1, 2, 0, 3] (Nat.le_add_left _ _) rfl rfl
  have hS255 : Sep G W ((Star (SetRows 3 (shk.take k) (c.take k) ++ [(RowE (α := Int) own 3 v243 ((c.getD k default).set))])) :: (RowE (α := CelS) own 42 v5 (shk.set k (⟨(shk.getD k default).n, v243⟩ : CelS))) :: (Blk b2 (t.cells dt0).toArray 33) :: Rs) w248 := hS254.snocStar
  rw [← SetRows.step (Ti := 3) (⟨(shk.getD k default).n, v243⟩ : CelS) hshl (by omega)] at hS255
  have hS256 : Sep G W ((RowE (α := CelS) own 42 v5 (shk.set k (⟨(shk.getD k default).n, v243⟩ : CelS))) :: (Star (SetRows 3 ((shk.set k ⟨(shk.getD k default).n, v243⟩).take (k + 1)) (c.take (k + 1)))) :: (Blk b2 (t.cells dt0).toArray 33) :: Rs) w248 := hS255.sel 3 [1, 0, 2] (Nat.le_add_left _ _) rfl rfl
  exact ⟨_, by omega, k + 1, shk.set k (⟨(shk.getD k default).n, v243⟩ : CelS), _, rfl, setAll_self ⟨rfl, rfl, rfl, rfl, rfl, rfl, rfl, rfl, rfl, trivial⟩, by omega, by rw [List.length_set]; exact hshl, (hshn_set hshl hshn (by omega)), hS256⟩

end Go.Proofs.YtlblilbmpdejgaaDoor
