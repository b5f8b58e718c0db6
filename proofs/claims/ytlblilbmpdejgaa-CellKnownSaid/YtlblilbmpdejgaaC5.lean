/- Steps of the proofs of this seat: part C5. -/
import Derived.Test.YtlblilbmpdejgaaC4
set_option linter.unusedSimpArgs false
set_option linter.unusedVariables false
namespace Go.Proofs.Ytlblilbmpdejgaa
open Go.Proofs Go.RowKit

theorem SetRows.step {Ti : TypeId} {sh : List CelS} {l : List Cel} {k : Nat} (s : CelS) (hlen : sh.length = l.length) (hk : k < l.length) : SetRows Ti ((sh.set k s).take (k + 1)) (l.take (k + 1)) = SetRows Ti (sh.take k) (l.take k) ++ [RowE (α := Int) own Ti s.v (l.getD k default).set] := by
  have e1 : (sh.set k s).take (k + 1) = sh.take k ++ [s] := by
    rw [List.take_succ_eq_append_getElem (by rw [List.length_set]; omega), List.getElem_set_self, List.take_set_of_le (Nat.le_refl _)]
  have e2 : l.take (k + 1) = l.take k ++ [l.getD k default] := by rw [List.take_succ_eq_append_getElem hk, getD_at _ hk]
  rw [e1, e2]
  exact SetRows.snoc s _ (by rw [List.length_take, List.length_take]; omega)
theorem hshn_set {sh : List CelS} {l : List Cel} {k : Nat} {v : Value} (hlen : sh.length = l.length) (hn : ∀ i, i < l.length → (sh.getD i default).n = (l.getD i default).n) (hk : k < l.length) : ∀ i, i < l.length → ((sh.set k ⟨(sh.getD k default).n, v⟩).getD i default).n = (l.getD i default).n := by
  intro i hi
  have h := (celw_n (s := ⟨(sh.getD k default).n, v⟩) (c := l.getD k default) hlen hn (hn k hk) hk).2 i (by rw [List.length_set]; exact hi)
  rwa [setD_self default hk] at h
theorem doL_none {t : Typ} {c : List Cel} {f op arg : Int} (hf : f.toNat < c.length) (h : op ≠ 1 ∧ op ≠ 2 ∧ op ≠ 3 ∧ op ≠ 4 ∧ op ≠ 5) : doL t c f op arg = c := by
  unfold doL doCel
  rw [if_neg h.1, if_neg h.2.1, if_neg h.2.2.1, if_neg h.2.2.2.1, if_neg h.2.2.2.2]
  exact setD_self default hf
theorem fd56_1 {d : Option Tmp} {ty : TypeId} {pos : String} {af : Array Edge} {g : Option (Nat × Bool)} {σ : Env} {w : World} {K : Value → World → Prop} {x : Operand} {b o : Nat} (hx : ev σ x = .pointer (some ⟨b, o, none⟩)) (h : K (.pointer (some ⟨b, o + 1, none⟩)) w) : opV Try.prog ⟨d, .fieldAddr 56 x 1, ty, pos, af, g⟩ σ w K := ov_fieldAddr Try.underlying56 rfl rfl (fun w => ⟨0, Try.sizeOf54 w⟩) hx h
set_option maxHeartbeats 4000000 in
theorem D_Do {G : Nat → Prop} {W w : World} {Rs : List HP} {t : Typ} {dt0 : Value} (hdt0 : RdS W G dt0 t.fields) (ot : t.Ok) {vc : Value} {c : List Cel} (hc : RdS W G vc c) {f : Int} (hf : InR f) {op : Int} (hop : InR op) {arg : Int} (harg : InR arg) (hS0 : Sep G W Rs w) (hak : AskOk t c f op arg) (hfew : op = 3 → (celAt c f).set.length ≤ 1000) : Ret Try.prog 11 [.agg (t.cells dt0).toArray, vc, .int .i64 (f), .int .i64 (op), .int .i64 (arg)] w (fun r w' => ∃ (v : Value), r = (v : Value) ∧ Sep G W ((RowE (α := Cel) own 47 v (doL t c f op arg)) :: Rs) w') := by
  have hdt0s : t.fields.length * 48 ≤ 140737488355328 := hdt0.small
  have hcs : c.length * 32 ≤ 140737488355328 := hc.small
  have hf0 := hak.1; have hf1 := hak.2.1; have hf2 := hak.2.2.1
  refine Calls_of_WP (args := [.agg (t.cells dt0).toArray, vc, .int .i64 (f), .int .i64 (op), .int .i64 (arg)]) Try.func11 rfl rfl ?_
  refine WP_seq ?_
  refine WP_region0 (by kernel_rfl) (fun _ => ?_)
  refine st (ov_box (v := .agg (t.cells dt0).toArray) rfl ?_)
  intro w3 b2 hn1
  have hS4 : Sep G W ((Blk b2 (t.cells dt0).toArray 31) :: Rs) w3 := hS0.new hn1
  refine st (ov_assign (v := (.slice none 0 0)) rfl ?_)
  refine st_nil ?_
  refine WP_seq ?_
  refine WP_region0 (by kernel_rfl) (fun _ => ?_)
  refine st (ov_move (v := vc) rfl ?_)
  refine st (ov_call (f := 22) (vals := [vc]) (cap := []) (show _ = (.func (.func 22) #[] #[] : Value) from rfl) rfl Try.call22 (D_cloneCel (l := c) (vl := vc) hc hS4) ?_)
  rintro v5 w6 ⟨_, rfl, hS7⟩
  have hr8 := hS7.row (i := 0) rfl
  have hr8s : c.length * 32 ≤ 140737488355328 := hr8.2
  obtain ⟨sh9, hl10, hn11, hS12⟩ := hS7.celShare
  have hS12t : Sep G W ((RowE (α := CelS) own 47 v5 sh9) :: (Blk b2 (t.cells dt0).toArray 31) :: Rs) w6 := hS12
  have hr13 := hS12t.row (i := 0) rfl
  have hr13s : sh9.length * 32 ≤ 140737488355328 := hr13.2
  refine st (ov_assign (v := v5) rfl ?_)
  refine st_nil ?_
  refine WP_seq ?_
  refine WP_seq ?_
  refine WP_region0 (by kernel_rfl) (fun _ => ?_)
  refine st (ov_move (v := v5) rfl ?_)
  refine st (ov_len (n := sh9.length) Try.underlying26 rfl hr13.1 ?_)
  refine st (ov_move (v := .int .i64 (0)) rfl ?_)
  refine st_nil ?_
  refine WP_block ?_
  have hS14 : Sep G W ((Star []) :: (RowE (α := CelS) own 47 v5 sh9) :: (Blk b2 (t.cells dt0).toArray 31) :: Rs) w6 := hS12t.nilStar
  have hS15 : Sep G W ((RowE (α := CelS) own 47 v5 sh9) :: (Star []) :: (Blk b2 (t.cells dt0).toArray 31) :: Rs) w6 := hS14.sel 3 [1, 0, 2] (Nat.le_add_left _ _) rfl rfl
  refine WP_loop (fun mq σ wq => ∃ (k : Nat) (shk : List CelS) (ρ : Env), mq = c.length - k ∧ σ = setAll ρ [(1, vc), (2, .int .i64 (f)), (3, .int .i64 (op)), (4, .int .i64 (arg)), (5, .pointer (some ⟨b2, 0, none⟩)), (10, (.slice none 0 0)), (11, v5), (18, .int .i64 ((sh9.length : Nat) : Int)), (19, .int .i64 ((k : Nat) : Int))] ∧ (k ≤ c.length) ∧ (shk.length = c.length) ∧ (∀ i, i < c.length → (shk.getD i default).n = (c.getD i default).n) ∧ Sep G W ((RowE (α := CelS) own 47 v5 shk) :: (Star (SetRows 3 (shk.take k) (c.take k))) :: (Blk b2 (t.cells dt0).toArray 31) :: Rs) wq) ⟨0, sh9, _, rfl, setAll_self ⟨rfl, rfl, rfl, rfl, rfl, rfl, rfl, rfl, rfl, trivial⟩, Nat.zero_le _, hl10, (fun i h => (hn11 i h).1), hS15⟩ ?_
  rintro m17 σ18 w16 ⟨k, shk, ρl1, rfl, rfl, hkk, hshl, hshn, hS19⟩
  have hr20 := hS19.row (i := 0) rfl
  have hr20s : shk.length * 32 ≤ 140737488355328 := hr20.2
  refine WP_seq ?_
  refine WP_region0 (by kernel_rfl) (fun _ => ?_)
  refine st (ov_lss (k := .i64) (a := ((k : Nat) : Int)) (b := ((sh9.length : Nat) : Int)) rfl rfl ?_)
  refine st_nil ?_
  refine WP_seq ?_
  cases hc21 : decide (((k : Nat) : Int) < ((sh9.length : Nat) : Int))
  · skip
    have hc21 := of_decide_eq_false hc21
    refine WP_cond_f rfl ?_
    refine WP_exit ?_
    refine blk_exit ?_
    refine WP_seq ?_
    refine WP_seq ?_
    refine WP_region0 (by kernel_rfl) (fun _ => ?_)
    have hkl : k = c.length := by omega
    rw [hkl] at hS19
    rw [List.take_of_length_le (Nat.le_of_eq hshl), List.take_length] at hS19
    have hS22 : Sep G W ((CelW v5 47 3 c) :: (Blk b2 (t.cells dt0).toArray 31) :: Rs) w16 := CelW.mk hS19 ⟨hshl, hshn⟩
    refine st (ov_call (f := 21) (vals := []) (cap := []) (show _ = (.func (.func 21) #[] #[] : Value) from rfl) rfl Try.call21 (D_rules  hS22) ?_)
    rintro _ w24 ⟨m23, rfl, hS25⟩
    refine st (ov_move (v := .int .i64 (op)) rfl ?_)
    have hops : op = 1 ∨ op = 2 ∨ op = 3 ∨ op = 4 ∨ op = 5 ∨ (op ≠ 1 ∧ op ≠ 2 ∧ op ≠ 3 ∧ op ≠ 4 ∧ op ≠ 5) := by omega
    rcases hops with hop | hop | hop | hop | hop | hop
    · skip
      refine st (ov_lookupSome (α := Rul) (a := ⟨32, 33⟩) Try.underlying58 Try.underlying3 rfl rfl (hS25.map_ (i := 0) rfl) (by rw [hop]; rfl) ?_)
      rintro _ rfl
      refine st (ov_move (v := .tuple #[.agg #[.func (.func 32) #[] #[], .func (.func 33) #[] #[]], .bool true]) rfl ?_)
      refine st (ov_extract (vs := [.agg #[.func (.func 32) #[] #[], .func (.func 33) #[] #[]], .bool true]) (i := 0) (v := .agg #[.func (.func 32) #[] #[], .func (.func 33) #[] #[]]) rfl rfl ?_)
      refine st (ov_extract (vs := [.agg #[.func (.func 32) #[] #[], .func (.func 33) #[] #[]], .bool true]) (i := 1) (v := .bool true) rfl rfl ?_)
      refine st (ov_alloc Try.zeroValue56 ?_)
      intro w28 b27 hn26
      have hS29 : Sep G W ((Blk b27 #[.nilFunc, .nilFunc] 56) :: (MapH (α := Rul) m23 ruleL) :: (CelW v5 47 3 c) :: (Blk b2 (t.cells dt0).toArray 31) :: Rs) w28 := hS25.new hn26
      refine stn (ov_store (v := .agg #[.func (.func 32) #[] #[], .func (.func 33) #[] #[]]) (c' := #[.func (.func 32) #[] #[], .func (.func 33) #[] #[]]) Try.sizeOf56 rfl rfl (hS29.blk (i := 0) rfl) (all1 ⟨rfl, rfl, trivial⟩) (Nat.le_of_ble_eq_true rfl) rfl ?_)
      intro w30 hp31
      have hS32 : Sep G W ((Blk b27 #[.func (.func 32) #[] #[], .func (.func 33) #[] #[]] 56) :: (MapH (α := Rul) m23 ruleL) :: (CelW v5 47 3 c) :: (Blk b2 (t.cells dt0).toArray 31) :: Rs) w30 := hS29.put (i := 0) rfl hp31
      refine st (ov_assign (v := .bool true) rfl ?_)
      refine st_nil ?_
      refine WP_seq ?_
      refine WP_region0 (by kernel_rfl) (fun _ => ?_)
      refine st (ov_move (v := .bool true) rfl ?_)
      refine st_nil ?_
      refine WP_cond_t rfl ?_
      refine WP_draw4 (WF [fun vals wq => Sep G W ((Blk b27 #[.func (.func 32) #[] #[], .func (.func 33) #[] #[]] 56) :: (MapH (α := Rul) m23 ruleL) :: (CelW v5 47 3 c) :: (Blk b2 (t.cells dt0).toArray 31) :: Rs) wq, fun vals wq => (vals 11 = (.tuple #[] : Value)) ∧ Sep G W ((CelW v5 47 3 (c.set f.toNat (doCel (t.fields.getD f.toNat default) (celAt c f) 1 arg))) :: (Blk b27 #[.func (.func 32) #[] #[], .func (.func 33) #[] #[]] 56) :: (MapH (α := Rul) m23 ruleL) :: (Blk b2 (t.cells dt0).toArray 31) :: Rs) wq]) (AF [fun vals => vals 0 = (.pointer (some ⟨b27, 1, none⟩) : Value), fun vals => vals 1 = (.func (.func 33) #[] #[] : Value), fun vals => vals 2 = (.pointer (some ⟨b2, 0, none⟩) : Value), fun vals => vals 3 = (dt0 : Value), fun vals => vals 4 = (.int .i64 (f) : Value), fun vals => vals 5 = (.pointer (some ⟨sb dt0, so dt0 + f.toNat * 4, none⟩) : Value), fun vals => vals 6 = (.agg ((t.fields.getD f.toNat default).cells (cellV W (sb dt0) (so dt0 + f.toNat * 4 + 3))).toArray : Value), fun vals => vals 7 = (v5 : Value), fun vals => vals 8 = (.int .i64 (f) : Value), fun vals => vals 9 = (.int .i64 (arg) : Value), fun vals => vals 10 = (.agg #[.int .i64 ((t.fields.getD f.toNat default).kind), .int .i64 ((t.fields.getD f.toNat default).policy), .bool ((t.fields.getD f.toNat default).floor), (cellV W (sb dt0) (so dt0 + f.toNat * 4 + 3)), v5, .int .i64 (f), .int .i64 (arg)] : Value), fun _ => True]) [[], [0], [], [2], [], [2, 3, 4], [2, 3, 4, 5], [], [], [], [2, 3, 4, 5, 6, 7, 8, 9], [0, 1, 2, 3, 4, 5, 6, 7, 8, 9, 10]] [11] [(0, 0), (0, 0), (0, 0), (0, 0), (0, 0), (0, 0), (0, 0), (0, 0), (0, 0), (0, 0), (0, 0), (0, 0)] (by kernel_rfl) (by kernel_rfl) (by kernel_rfl) rfl (by kernel_rfl) (by kernel_rfl) (fun _ h1 h2 h3 h4 _ => hS32.same h1 h2 h3 h4) ?_ ?_ ⟨?_, ?_, ?_, ?_, ?_, ?_, ?_, ?_, ?_, ?_, ?_, ?_, trivial⟩ ?_
      · intro k vals vals' w hv h
        have e : ∀ j ∈ ([11] : List Nat), vals' j = vals j := hv
        match k, h with
        | 0, h => exact h
        | 1, h => exact (by simpa only [WF, List.getElem?_cons_zero, List.getElem?_cons_succ, e 11 (by decide)] using h)
        | _ + 2, _ => trivial
      · intro i vals vals' hv h
        match i, hv, h with
        | 0, hv, h => exact (hv 0 (.inl rfl)).trans h
        | 1, hv, h => exact (hv 1 (.inl rfl)).trans h
        | 2, hv, h => exact (hv 2 (.inl rfl)).trans h
        | 3, hv, h => exact (hv 3 (.inl rfl)).trans h
        | 4, hv, h => exact (hv 4 (.inl rfl)).trans h
        | 5, hv, h => exact (hv 5 (.inl rfl)).trans h
        | 6, hv, h => exact (hv 6 (.inl rfl)).trans h
        | 7, hv, h => exact (hv 7 (.inl rfl)).trans h
        | 8, hv, h => exact (hv 8 (.inl rfl)).trans h
        | 9, hv, h => exact (hv 9 (.inl rfl)).trans h
        | 10, hv, h => exact (hv 10 (.inl rfl)).trans h
        | 11, _, _ => trivial
        | _ + 12, _, _ => trivial
      · intro k131 vals w132 h135 h136 hW134 hA133
        refine obl rfl ?_
        exact fd56_1 rfl (fun vals' hv _ => ⟨rfl, hv⟩)
      · intro k137 vals w138 h141 h142 hW140 hA139
        obtain rfl : k137 = 0 := Nat.le_antisymm h142 h141
        have hS143 : Sep G W ((Blk b27 #[.func (.func 32) #[] #[], .func (.func 33) #[] #[]] 56) :: (MapH (α := Rul) m23 ruleL) :: (CelW v5 47 3 c) :: (Blk b2 (t.cells dt0).toArray 31) :: Rs) w138 := hW140
        have e144 : vals 0 = (.pointer (some ⟨b27, 1, none⟩) : Value) := hA139 0 (by decide)
        refine obl rfl ?_
        exact ov_load1 (v := .func (.func 33) #[] #[]) Try.isAgg54 (show _ = (.pointer (some ⟨b27, 1, none⟩) : Value) from e144) (blk_cellL (hS143.blk (i := 0) rfl) rfl) (fun vals' hv _ => ⟨rfl, hv⟩)
      · intro k145 vals w146 h149 h150 hW148 hA147
        refine obl rfl ?_
        exact fd31_0 rfl (fun vals' hv _ => ⟨rfl, hv⟩)
      · intro k151 vals w152 h155 h156 hW154 hA153
        obtain rfl : k151 = 0 := Nat.le_antisymm h156 h155
        have hS157 : Sep G W ((Blk b27 #[.func (.func 32) #[] #[], .func (.func 33) #[] #[]] 56) :: (MapH (α := Rul) m23 ruleL) :: (CelW v5 47 3 c) :: (Blk b2 (t.cells dt0).toArray 31) :: Rs) w152 := hW154
        have e158 : vals 2 = (.pointer (some ⟨b2, 0, none⟩) : Value) := hA153 2 (by decide)
        refine obl rfl ?_
        exact ov_load1 (v := dt0) Try.isAgg29 (show _ = (.pointer (some ⟨b2, 0, none⟩) : Value) from e158) (blk_cellL (hS157.blk (i := 3) rfl) rfl) (fun vals' hv _ => ⟨rfl, hv⟩)
      · intro k159 vals w160 h163 h164 hW162 hA161
        refine obl rfl ?_
        exact ov_move (v := .int .i64 (f)) rfl (fun vals' hv _ => ⟨rfl, hv⟩)
      · intro k165 vals w166 h169 h170 hW168 hA167
        obtain rfl : k165 = 0 := Nat.le_antisymm h170 h169
        have hS171 : Sep G W ((Blk b27 #[.func (.func 32) #[] #[], .func (.func 33) #[] #[]] 56) :: (MapH (α := Rul) m23 ruleL) :: (CelW v5 47 3 c) :: (Blk b2 (t.cells dt0).toArray 31) :: Rs) w166 := hW168
        have e172 : vals 3 = (dt0 : Value) := hA167 3 (by decide)
        have e173 : vals 4 = (.int .i64 (f) : Value) := hA167 4 (by decide)
        refine obl rfl ?_
        have hi174 : f.toNat < t.fields.length := (by have h1 := hak.1; have h2 := hak.2.1; have h3 := hak.2.2.1; omega)
        exact ov_indexAddr (k := 4) (i := f) Try.underlying29 Try.sizeOf36 (show _ = (dt0 : Value) from e172) hdt0.sl (show _ = (.int .i64 (f) : Value) from e173) ⟨by omega, by omega⟩ (fun vals' hv _ => ⟨rfl, hv⟩)
      · intro k175 vals w176 h179 h180 hW178 hA177
        obtain rfl : k175 = 0 := Nat.le_antisymm h180 h179
        have hS181 : Sep G W ((Blk b27 #[.func (.func 32) #[] #[], .func (.func 33) #[] #[]] 56) :: (MapH (α := Rul) m23 ruleL) :: (CelW v5 47 3 c) :: (Blk b2 (t.cells dt0).toArray 31) :: Rs) w176 := hW178
        have e182 : vals 5 = (.pointer (some ⟨sb dt0, so dt0 + f.toNat * 4, none⟩) : Value) := hA177 5 (by decide)
        refine obl rfl ?_
        have hi184 : f.toNat < t.fields.length := (by have h1 := hak.1; have h2 := hak.2.1; have h3 := hak.2.2.1; omega)
        obtain ⟨hce183, hde183_0, hoke183⟩ := hdt0.fld hi184
        rw [← getD_at default hi184] at hce183 hde183_0 hoke183
        have hsm185 : ((t.fields.getD f.toNat default).moves).length * 32 ≤ 140737488355328 := hde183_0.small
        have hcw186 := hS181.cells hce183 (hdt0.foot (ne_of_lt hi184))
        exact ov_loadk (k := 4) Try.isAgg36 Try.sizeOf36 rfl (show _ = (.pointer (some ⟨sb dt0, so dt0 + f.toNat * 4, none⟩) : Value) from e182) hcw186 (fun vals' hv _ => ⟨rfl, hv⟩)
      · intro k187 vals w188 h191 h192 hW190 hA189
        refine obl rfl ?_
        exact ov_move (v := v5) rfl (fun vals' hv _ => ⟨rfl, hv⟩)
      · intro k193 vals w194 h197 h198 hW196 hA195
        refine obl rfl ?_
        exact ov_move (v := .int .i64 (f)) rfl (fun vals' hv _ => ⟨rfl, hv⟩)
      · intro k199 vals w200 h203 h204 hW202 hA201
        refine obl rfl ?_
        exact ov_move (v := .int .i64 (arg)) rfl (fun vals' hv _ => ⟨rfl, hv⟩)
      · intro k205 vals w206 h209 h210 hW208 hA207
        have e211 : vals 6 = (.agg ((t.fields.getD f.toNat default).cells (cellV W (sb dt0) (so dt0 + f.toNat * 4 + 3))).toArray : Value) := hA207 6 (by decide)
        have e212 : vals 7 = (v5 : Value) := hA207 7 (by decide)
        have e213 : vals 8 = (.int .i64 (f) : Value) := hA207 8 (by decide)
        have e214 : vals 9 = (.int .i64 (arg) : Value) := hA207 9 (by decide)
        refine obl rfl ?_
        exact ov_build (parts' := [(0, .agg ((t.fields.getD f.toNat default).cells (cellV W (sb dt0) (so dt0 + f.toNat * 4 + 3))).toArray), (1, v5), (2, .int .i64 (f)), (3, .int .i64 (arg))]) (v := .agg #[.int .i64 ((t.fields.getD f.toNat default).kind), .int .i64 ((t.fields.getD f.toNat default).policy), .bool ((t.fields.getD f.toNat default).floor), (cellV W (sb dt0) (so dt0 + f.toNat * 4 + 3)), v5, .int .i64 (f), .int .i64 (arg)]) (mapP ⟨rfl, (show _ = (.agg ((t.fields.getD f.toNat default).cells (cellV W (sb dt0) (so dt0 + f.toNat * 4 + 3))).toArray : Value) from e211), rfl, (show _ = (v5 : Value) from e212), rfl, (show _ = (.int .i64 (f) : Value) from e213), rfl, (show _ = (.int .i64 (arg) : Value) from e214), trivial⟩) (by obtain ⟨_, _, hv215, _⟩ := hr20.1; rw [show v5 = Value.slice _ _ _ from hv215]; simp [Instr.build, Instr.fill, Ev.cells, go_sem, Mv.cells, Fld.cells, Typ.cells, Prj.cells, Dcl.cells, Cel.cells, AskR.cells]) (fun vals' hv _ => ⟨rfl, hv⟩)
      · intro k118 vals w119 h122 h123 hW121 hA120
        obtain rfl : k118 = 0 := Nat.le_antisymm h123 h122
        have hS124 : Sep G W ((Blk b27 #[.func (.func 32) #[] #[], .func (.func 33) #[] #[]] 56) :: (MapH (α := Rul) m23 ruleL) :: (CelW v5 47 3 c) :: (Blk b2 (t.cells dt0).toArray 31) :: Rs) w119 := hW121
        have e125 : vals 1 = (.func (.func 33) #[] #[] : Value) := hA120 1 (by decide)
        have e126 : vals 10 = (.agg #[.int .i64 ((t.fields.getD f.toNat default).kind), .int .i64 ((t.fields.getD f.toNat default).policy), .bool ((t.fields.getD f.toNat default).floor), (cellV W (sb dt0) (so dt0 + f.toNat * 4 + 3)), v5, .int .i64 (f), .int .i64 (arg)] : Value) := hA120 10 (by decide)
        refine obl rfl ?_
        have hS127 : Sep G W ((CelW v5 47 3 c) :: (Blk b27 #[.func (.func 32) #[] #[], .func (.func 33) #[] #[]] 56) :: (MapH (α := Rul) m23 ruleL) :: (Blk b2 (t.cells dt0).toArray 31) :: Rs) w119 := hS124.sel 4 [2, 0, 1, 3] (Nat.le_add_left _ _) rfl rfl
        refine (ov_call (f := 33) (vals := [.agg #[.int .i64 ((t.fields.getD f.toNat default).kind), .int .i64 ((t.fields.getD f.toNat default).policy), .bool ((t.fields.getD f.toNat default).floor), (cellV W (sb dt0) (so dt0 + f.toNat * 4 + 3)), v5, .int .i64 (f), .int .i64 (arg)]]) (cap := []) (show _ = (.func (.func 33) #[] #[] : Value) from e125) (mapL ⟨(show _ = (.agg #[.int .i64 ((t.fields.getD f.toNat default).kind), .int .i64 ((t.fields.getD f.toNat default).policy), .bool ((t.fields.getD f.toNat default).floor), (cellV W (sb dt0) (so dt0 + f.toNat * 4 + 3)), v5, .int .i64 (f), .int .i64 (arg)] : Value) from e126), trivial⟩) Try.call33 (D_doInc  hS127 (⟨hak.1, hak.2.2.1⟩) (hf) (harg)) ?_)
        rintro _ w128 ⟨rfl, hS129⟩
        intro vals' hv hv'
        refine ⟨?_, trivial⟩
        show (vals' 11 = (.tuple #[] : Value)) ∧ Sep G W ((CelW v5 47 3 (c.set f.toNat (doCel (t.fields.getD f.toNat default) (celAt c f) 1 arg))) :: (Blk b27 #[.func (.func 32) #[] #[], .func (.func 33) #[] #[]] 56) :: (MapH (α := Rul) m23 ruleL) :: (Blk b2 (t.cells dt0).toArray 31) :: Rs) w128
        exact ⟨hv, hS129⟩
      intro vals w216 hW217 hA218
      obtain ⟨he130, hS219⟩ : (vals 11 = (.tuple #[] : Value)) ∧ Sep G W ((CelW v5 47 3 (c.set f.toNat (doCel (t.fields.getD f.toNat default) (celAt c f) 1 arg))) :: (Blk b27 #[.func (.func 32) #[] #[], .func (.func 33) #[] #[]] 56) :: (MapH (α := Rul) m23 ruleL) :: (Blk b2 (t.cells dt0).toArray 31) :: Rs) w216 := hW217
      refine st_env (kv := [(1, vc), (2, .int .i64 (f)), (3, .int .i64 (op)), (4, .int .i64 (arg)), (5, .pointer (some ⟨b2, 0, none⟩)), (10, (.slice none 0 0)), (11, v5), (18, .int .i64 ((sh9.length : Nat) : Int)), (19, .int .i64 ((k : Nat) : Int)), (20, .bool false), (34, .map (some m23)), (35, .int .i64 (op)), (36, .tuple #[.agg #[.func (.func 32) #[] #[], .func (.func 33) #[] #[]], .bool true]), (33, .tuple #[.agg #[.func (.func 32) #[] #[], .func (.func 33) #[] #[]], .bool true]), (37, .agg #[.func (.func 32) #[] #[], .func (.func 33) #[] #[]]), (38, .bool true), (13, .pointer (some ⟨b27, 0, none⟩)), (14, .bool true), (39, .bool true)]) ⟨rfl, rfl, rfl, rfl, rfl, rfl, rfl, rfl, rfl, rfl, rfl, rfl, rfl, rfl, rfl, rfl, rfl, rfl, rfl, trivial⟩ (fun ρw216 => ?_)
      refine st_nil ?_
      refine WP_seq ?_
      refine WP_region0 (by kernel_rfl) (fun _ => ?_)
      refine st (ov_move (v := v5) rfl ?_)
      refine st (ov_assign (v := v5) rfl ?_)
      refine st_nil ?_
      refine WP_ret ?_
      refine fin1 Try.results11 (show _ = (v5 : Value) from rfl) ?_
      have hS220 : Sep G W ((RowE (α := Cel) own 47 v5 (c.set f.toNat (doCel (t.fields.getD f.toNat default) (celAt c f) 1 arg))) :: (Blk b27 #[.func (.func 32) #[] #[], .func (.func 33) #[] #[]] 56) :: (MapH (α := Rul) m23 ruleL) :: (Blk b2 (t.cells dt0).toArray 31) :: Rs) w216 := CelW.row hS219
      have hS221 : Sep G W ((RowE (α := Cel) own 47 v5 (doL t c f op arg)) :: (Blk b27 #[.func (.func 32) #[] #[], .func (.func 33) #[] #[]] 56) :: (MapH (α := Rul) m23 ruleL) :: (Blk b2 (t.cells dt0).toArray 31) :: Rs) w216 := by subst hop; exact hS220
      have hS222 : Sep G W ((RowE (α := Cel) own 47 v5 (doL t c f op arg)) :: Rs) w216 := hS221.sel 4 [0] (Nat.le_add_left _ _) rfl rfl
      refine ⟨v5, rfl, hS222⟩
    · skip
      refine st (ov_lookupSome (α := Rul) (a := ⟨35, 36⟩) Try.underlying58 Try.underlying3 rfl rfl (hS25.map_ (i := 0) rfl) (by rw [hop]; rfl) ?_)
      rintro _ rfl
      refine st (ov_move (v := .tuple #[.agg #[.func (.func 35) #[] #[], .func (.func 36) #[] #[]], .bool true]) rfl ?_)
      refine st (ov_extract (vs := [.agg #[.func (.func 35) #[] #[], .func (.func 36) #[] #[]], .bool true]) (i := 0) (v := .agg #[.func (.func 35) #[] #[], .func (.func 36) #[] #[]]) rfl rfl ?_)
      refine st (ov_extract (vs := [.agg #[.func (.func 35) #[] #[], .func (.func 36) #[] #[]], .bool true]) (i := 1) (v := .bool true) rfl rfl ?_)
      refine st (ov_alloc Try.zeroValue56 ?_)
      intro w225 b224 hn223
      have hS226 : Sep G W ((Blk b224 #[.nilFunc, .nilFunc] 56) :: (MapH (α := Rul) m23 ruleL) :: (CelW v5 47 3 c) :: (Blk b2 (t.cells dt0).toArray 31) :: Rs) w225 := hS25.new hn223
      refine stn (ov_store (v := .agg #[.func (.func 35) #[] #[], .func (.func 36) #[] #[]]) (c' := #[.func (.func 35) #[] #[], .func (.func 36) #[] #[]]) Try.sizeOf56 rfl rfl (hS226.blk (i := 0) rfl) (all1 ⟨rfl, rfl, trivial⟩) (Nat.le_of_ble_eq_true rfl) rfl ?_)
      intro w227 hp228
      have hS229 : Sep G W ((Blk b224 #[.func (.func 35) #[] #[], .func (.func 36) #[] #[]] 56) :: (MapH (α := Rul) m23 ruleL) :: (CelW v5 47 3 c) :: (Blk b2 (t.cells dt0).toArray 31) :: Rs) w227 := hS226.put (i := 0) rfl hp228
      refine st (ov_assign (v := .bool true) rfl ?_)
      refine st_nil ?_
      refine WP_seq ?_
      refine WP_region0 (by kernel_rfl) (fun _ => ?_)
      refine st (ov_move (v := .bool true) rfl ?_)
      refine st_nil ?_
      refine WP_cond_t rfl ?_
      refine WP_draw4 (WF [fun vals wq => Sep G W ((Blk b224 #[.func (.func 35) #[] #[], .func (.func 36) #[] #[]] 56) :: (MapH (α := Rul) m23 ruleL) :: (CelW v5 47 3 c) :: (Blk b2 (t.cells dt0).toArray 31) :: Rs) wq, fun vals wq => (vals 11 = (.tuple #[] : Value)) ∧ Sep G W ((CelW v5 47 3 (c.set f.toNat (doCel (t.fields.getD f.toNat default) (celAt c f) 2 arg))) :: (Blk b224 #[.func (.func 35) #[] #[], .func (.func 36) #[] #[]] 56) :: (MapH (α := Rul) m23 ruleL) :: (Blk b2 (t.cells dt0).toArray 31) :: Rs) wq]) (AF [fun vals => vals 0 = (.pointer (some ⟨b224, 1, none⟩) : Value), fun vals => vals 1 = (.func (.func 36) #[] #[] : Value), fun vals => vals 2 = (.pointer (some ⟨b2, 0, none⟩) : Value), fun vals => vals 3 = (dt0 : Value), fun vals => vals 4 = (.int .i64 (f) : Value), fun vals => vals 5 = (.pointer (some ⟨sb dt0, so dt0 + f.toNat * 4, none⟩) : Value), fun vals => vals 6 = (.agg ((t.fields.getD f.toNat default).cells (cellV W (sb dt0) (so dt0 + f.toNat * 4 + 3))).toArray : Value), fun vals => vals 7 = (v5 : Value), fun vals => vals 8 = (.int .i64 (f) : Value), fun vals => vals 9 = (.int .i64 (arg) : Value), fun vals => vals 10 = (.agg #[.int .i64 ((t.fields.getD f.toNat default).kind), .int .i64 ((t.fields.getD f.toNat default).policy), .bool ((t.fields.getD f.toNat default).floor), (cellV W (sb dt0) (so dt0 + f.toNat * 4 + 3)), v5, .int .i64 (f), .int .i64 (arg)] : Value), fun _ => True]) [[], [0], [], [2], [], [2, 3, 4], [2, 3, 4, 5], [], [], [], [2, 3, 4, 5, 6, 7, 8, 9], [0, 1, 2, 3, 4, 5, 6, 7, 8, 9, 10]] [11] [(0, 0), (0, 0), (0, 0), (0, 0), (0, 0), (0, 0), (0, 0), (0, 0), (0, 0), (0, 0), (0, 0), (0, 0)] (by kernel_rfl) (by kernel_rfl) (by kernel_rfl) rfl (by kernel_rfl) (by kernel_rfl) (fun _ h1 h2 h3 h4 _ => hS229.same h1 h2 h3 h4) ?_ ?_ ⟨?_, ?_, ?_, ?_, ?_, ?_, ?_, ?_, ?_, ?_, ?_, ?_, trivial⟩ ?_
      · intro k vals vals' w hv h
        have e : ∀ j ∈ ([11] : List Nat), vals' j = vals j := hv
        match k, h with
        | 0, h => exact h
        | 1, h => exact (by simpa only [WF, List.getElem?_cons_zero, List.getElem?_cons_succ, e 11 (by decide)] using h)
        | _ + 2, _ => trivial
      · intro i vals vals' hv h
        match i, hv, h with
        | 0, hv, h => exact (hv 0 (.inl rfl)).trans h
        | 1, hv, h => exact (hv 1 (.inl rfl)).trans h
        | 2, hv, h => exact (hv 2 (.inl rfl)).trans h
        | 3, hv, h => exact (hv 3 (.inl rfl)).trans h
        | 4, hv, h => exact (hv 4 (.inl rfl)).trans h
        | 5, hv, h => exact (hv 5 (.inl rfl)).trans h
        | 6, hv, h => exact (hv 6 (.inl rfl)).trans h
        | 7, hv, h => exact (hv 7 (.inl rfl)).trans h
        | 8, hv, h => exact (hv 8 (.inl rfl)).trans h
        | 9, hv, h => exact (hv 9 (.inl rfl)).trans h
        | 10, hv, h => exact (hv 10 (.inl rfl)).trans h
        | 11, _, _ => trivial
        | _ + 12, _, _ => trivial
      · intro k328 vals w329 h332 h333 hW331 hA330
        refine obl rfl ?_
        exact fd56_1 rfl (fun vals' hv _ => ⟨rfl, hv⟩)
      · intro k334 vals w335 h338 h339 hW337 hA336
        obtain rfl : k334 = 0 := Nat.le_antisymm h339 h338
        have hS340 : Sep G W ((Blk b224 #[.func (.func 35) #[] #[], .func (.func 36) #[] #[]] 56) :: (MapH (α := Rul) m23 ruleL) :: (CelW v5 47 3 c) :: (Blk b2 (t.cells dt0).toArray 31) :: Rs) w335 := hW337
        have e341 : vals 0 = (.pointer (some ⟨b224, 1, none⟩) : Value) := hA336 0 (by decide)
        refine obl rfl ?_
        exact ov_load1 (v := .func (.func 36) #[] #[]) Try.isAgg54 (show _ = (.pointer (some ⟨b224, 1, none⟩) : Value) from e341) (blk_cellL (hS340.blk (i := 0) rfl) rfl) (fun vals' hv _ => ⟨rfl, hv⟩)
      · intro k342 vals w343 h346 h347 hW345 hA344
        refine obl rfl ?_
        exact fd31_0 rfl (fun vals' hv _ => ⟨rfl, hv⟩)
      · intro k348 vals w349 h352 h353 hW351 hA350
        obtain rfl : k348 = 0 := Nat.le_antisymm h353 h352
        have hS354 : Sep G W ((Blk b224 #[.func (.func 35) #[] #[], .func (.func 36) #[] #[]] 56) :: (MapH (α := Rul) m23 ruleL) :: (CelW v5 47 3 c) :: (Blk b2 (t.cells dt0).toArray 31) :: Rs) w349 := hW351
        have e355 : vals 2 = (.pointer (some ⟨b2, 0, none⟩) : Value) := hA350 2 (by decide)
        refine obl rfl ?_
        exact ov_load1 (v := dt0) Try.isAgg29 (show _ = (.pointer (some ⟨b2, 0, none⟩) : Value) from e355) (blk_cellL (hS354.blk (i := 3) rfl) rfl) (fun vals' hv _ => ⟨rfl, hv⟩)
      · intro k356 vals w357 h360 h361 hW359 hA358
        refine obl rfl ?_
        exact ov_move (v := .int .i64 (f)) rfl (fun vals' hv _ => ⟨rfl, hv⟩)
      · intro k362 vals w363 h366 h367 hW365 hA364
        obtain rfl : k362 = 0 := Nat.le_antisymm h367 h366
        have hS368 : Sep G W ((Blk b224 #[.func (.func 35) #[] #[], .func (.func 36) #[] #[]] 56) :: (MapH (α := Rul) m23 ruleL) :: (CelW v5 47 3 c) :: (Blk b2 (t.cells dt0).toArray 31) :: Rs) w363 := hW365
        have e369 : vals 3 = (dt0 : Value) := hA364 3 (by decide)
        have e370 : vals 4 = (.int .i64 (f) : Value) := hA364 4 (by decide)
        refine obl rfl ?_
        have hi371 : f.toNat < t.fields.length := (by have h1 := hak.1; have h2 := hak.2.1; have h3 := hak.2.2.1; omega)
        exact ov_indexAddr (k := 4) (i := f) Try.underlying29 Try.sizeOf36 (show _ = (dt0 : Value) from e369) hdt0.sl (show _ = (.int .i64 (f) : Value) from e370) ⟨by omega, by omega⟩ (fun vals' hv _ => ⟨rfl, hv⟩)
      · intro k372 vals w373 h376 h377 hW375 hA374
        obtain rfl : k372 = 0 := Nat.le_antisymm h377 h376
        have hS378 : Sep G W ((Blk b224 #[.func (.func 35) #[] #[], .func (.func 36) #[] #[]] 56) :: (MapH (α := Rul) m23 ruleL) :: (CelW v5 47 3 c) :: (Blk b2 (t.cells dt0).toArray 31) :: Rs) w373 := hW375
        have e379 : vals 5 = (.pointer (some ⟨sb dt0, so dt0 + f.toNat * 4, none⟩) : Value) := hA374 5 (by decide)
        refine obl rfl ?_
        have hi381 : f.toNat < t.fields.length := (by have h1 := hak.1; have h2 := hak.2.1; have h3 := hak.2.2.1; omega)
        obtain ⟨hce380, hde380_0, hoke380⟩ := hdt0.fld hi381
        rw [← getD_at default hi381] at hce380 hde380_0 hoke380
        have hsm382 : ((t.fields.getD f.toNat default).moves).length * 32 ≤ 140737488355328 := hde380_0.small
        have hcw383 := hS378.cells hce380 (hdt0.foot (ne_of_lt hi381))
        exact ov_loadk (k := 4) Try.isAgg36 Try.sizeOf36 rfl (show _ = (.pointer (some ⟨sb dt0, so dt0 + f.toNat * 4, none⟩) : Value) from e379) hcw383 (fun vals' hv _ => ⟨rfl, hv⟩)
      · intro k384 vals w385 h388 h389 hW387 hA386
        refine obl rfl ?_
        exact ov_move (v := v5) rfl (fun vals' hv _ => ⟨rfl, hv⟩)
      · intro k390 vals w391 h394 h395 hW393 hA392
        refine obl rfl ?_
        exact ov_move (v := .int .i64 (f)) rfl (fun vals' hv _ => ⟨rfl, hv⟩)
      · intro k396 vals w397 h400 h401 hW399 hA398
        refine obl rfl ?_
        exact ov_move (v := .int .i64 (arg)) rfl (fun vals' hv _ => ⟨rfl, hv⟩)
      · intro k402 vals w403 h406 h407 hW405 hA404
        have e408 : vals 6 = (.agg ((t.fields.getD f.toNat default).cells (cellV W (sb dt0) (so dt0 + f.toNat * 4 + 3))).toArray : Value) := hA404 6 (by decide)
        have e409 : vals 7 = (v5 : Value) := hA404 7 (by decide)
        have e410 : vals 8 = (.int .i64 (f) : Value) := hA404 8 (by decide)
        have e411 : vals 9 = (.int .i64 (arg) : Value) := hA404 9 (by decide)
        refine obl rfl ?_
        exact ov_build (parts' := [(0, .agg ((t.fields.getD f.toNat default).cells (cellV W (sb dt0) (so dt0 + f.toNat * 4 + 3))).toArray), (1, v5), (2, .int .i64 (f)), (3, .int .i64 (arg))]) (v := .agg #[.int .i64 ((t.fields.getD f.toNat default).kind), .int .i64 ((t.fields.getD f.toNat default).policy), .bool ((t.fields.getD f.toNat default).floor), (cellV W (sb dt0) (so dt0 + f.toNat * 4 + 3)), v5, .int .i64 (f), .int .i64 (arg)]) (mapP ⟨rfl, (show _ = (.agg ((t.fields.getD f.toNat default).cells (cellV W (sb dt0) (so dt0 + f.toNat * 4 + 3))).toArray : Value) from e408), rfl, (show _ = (v5 : Value) from e409), rfl, (show _ = (.int .i64 (f) : Value) from e410), rfl, (show _ = (.int .i64 (arg) : Value) from e411), trivial⟩) (by obtain ⟨_, _, hv412, _⟩ := hr20.1; rw [show v5 = Value.slice _ _ _ from hv412]; simp [Instr.build, Instr.fill, Ev.cells, go_sem, Mv.cells, Fld.cells, Typ.cells, Prj.cells, Dcl.cells, Cel.cells, AskR.cells]) (fun vals' hv _ => ⟨rfl, hv⟩)
      · intro k315 vals w316 h319 h320 hW318 hA317
        obtain rfl : k315 = 0 := Nat.le_antisymm h320 h319
        have hS321 : Sep G W ((Blk b224 #[.func (.func 35) #[] #[], .func (.func 36) #[] #[]] 56) :: (MapH (α := Rul) m23 ruleL) :: (CelW v5 47 3 c) :: (Blk b2 (t.cells dt0).toArray 31) :: Rs) w316 := hW318
        have e322 : vals 1 = (.func (.func 36) #[] #[] : Value) := hA317 1 (by decide)
        have e323 : vals 10 = (.agg #[.int .i64 ((t.fields.getD f.toNat default).kind), .int .i64 ((t.fields.getD f.toNat default).policy), .bool ((t.fields.getD f.toNat default).floor), (cellV W (sb dt0) (so dt0 + f.toNat * 4 + 3)), v5, .int .i64 (f), .int .i64 (arg)] : Value) := hA317 10 (by decide)
        refine obl rfl ?_
        have hS324 : Sep G W ((CelW v5 47 3 c) :: (Blk b224 #[.func (.func 35) #[] #[], .func (.func 36) #[] #[]] 56) :: (MapH (α := Rul) m23 ruleL) :: (Blk b2 (t.cells dt0).toArray 31) :: Rs) w316 := hS321.sel 4 [2, 0, 1, 3] (Nat.le_add_left _ _) rfl rfl
        refine (ov_call (f := 36) (vals := [.agg #[.int .i64 ((t.fields.getD f.toNat default).kind), .int .i64 ((t.fields.getD f.toNat default).policy), .bool ((t.fields.getD f.toNat default).floor), (cellV W (sb dt0) (so dt0 + f.toNat * 4 + 3)), v5, .int .i64 (f), .int .i64 (arg)]]) (cap := []) (show _ = (.func (.func 36) #[] #[] : Value) from e322) (mapL ⟨(show _ = (.agg #[.int .i64 ((t.fields.getD f.toNat default).kind), .int .i64 ((t.fields.getD f.toNat default).policy), .bool ((t.fields.getD f.toNat default).floor), (cellV W (sb dt0) (so dt0 + f.toNat * 4 + 3)), v5, .int .i64 (f), .int .i64 (arg)] : Value) from e323), trivial⟩) Try.call36 (D_doSet  hS324 (⟨hak.1, hak.2.2.1⟩) (hf) (harg)) ?_)
        rintro _ w325 ⟨rfl, hS326⟩
        intro vals' hv hv'
        refine ⟨?_, trivial⟩
        show (vals' 11 = (.tuple #[] : Value)) ∧ Sep G W ((CelW v5 47 3 (c.set f.toNat (doCel (t.fields.getD f.toNat default) (celAt c f) 2 arg))) :: (Blk b224 #[.func (.func 35) #[] #[], .func (.func 36) #[] #[]] 56) :: (MapH (α := Rul) m23 ruleL) :: (Blk b2 (t.cells dt0).toArray 31) :: Rs) w325
        exact ⟨hv, hS326⟩
      intro vals w413 hW414 hA415
      obtain ⟨he327, hS416⟩ : (vals 11 = (.tuple #[] : Value)) ∧ Sep G W ((CelW v5 47 3 (c.set f.toNat (doCel (t.fields.getD f.toNat default) (celAt c f) 2 arg))) :: (Blk b224 #[.func (.func 35) #[] #[], .func (.func 36) #[] #[]] 56) :: (MapH (α := Rul) m23 ruleL) :: (Blk b2 (t.cells dt0).toArray 31) :: Rs) w413 := hW414
      refine st_env (kv := [(1, vc), (2, .int .i64 (f)), (3, .int .i64 (op)), (4, .int .i64 (arg)), (5, .pointer (some ⟨b2, 0, none⟩)), (10, (.slice none 0 0)), (11, v5), (18, .int .i64 ((sh9.length : Nat) : Int)), (19, .int .i64 ((k : Nat) : Int)), (20, .bool false), (34, .map (some m23)), (35, .int .i64 (op)), (36, .tuple #[.agg #[.func (.func 35) #[] #[], .func (.func 36) #[] #[]], .bool true]), (33, .tuple #[.agg #[.func (.func 35) #[] #[], .func (.func 36) #[] #[]], .bool true]), (37, .agg #[.func (.func 35) #[] #[], .func (.func 36) #[] #[]]), (38, .bool true), (13, .pointer (some ⟨b224, 0, none⟩)), (14, .bool true), (39, .bool true)]) ⟨rfl, rfl, rfl, rfl, rfl, rfl, rfl, rfl, rfl, rfl, rfl, rfl, rfl, rfl, rfl, rfl, rfl, rfl, rfl, trivial⟩ (fun ρw413 => ?_)
      refine st_nil ?_
      refine WP_seq ?_
      refine WP_region0 (by kernel_rfl) (fun _ => ?_)
      refine st (ov_move (v := v5) rfl ?_)
      refine st (ov_assign (v := v5) rfl ?_)
      refine st_nil ?_
      refine WP_ret ?_
      refine fin1 Try.results11 (show _ = (v5 : Value) from rfl) ?_
      have hS417 : Sep G W ((RowE (α := Cel) own 47 v5 (c.set f.toNat (doCel (t.fields.getD f.toNat default) (celAt c f) 2 arg))) :: (Blk b224 #[.func (.func 35) #[] #[], .func (.func 36) #[] #[]] 56) :: (MapH (α := Rul) m23 ruleL) :: (Blk b2 (t.cells dt0).toArray 31) :: Rs) w413 := CelW.row hS416
      have hS418 : Sep G W ((RowE (α := Cel) own 47 v5 (doL t c f op arg)) :: (Blk b224 #[.func (.func 35) #[] #[], .func (.func 36) #[] #[]] 56) :: (MapH (α := Rul) m23 ruleL) :: (Blk b2 (t.cells dt0).toArray 31) :: Rs) w413 := by subst hop; exact hS417
      have hS419 : Sep G W ((RowE (α := Cel) own 47 v5 (doL t c f op arg)) :: Rs) w413 := hS418.sel 4 [0] (Nat.le_add_left _ _) rfl rfl
      refine ⟨v5, rfl, hS419⟩
    · skip
      refine st (ov_lookupSome (α := Rul) (a := ⟨37, 38⟩) Try.underlying58 Try.underlying3 rfl rfl (hS25.map_ (i := 0) rfl) (by rw [hop]; rfl) ?_)
      rintro _ rfl
      refine st (ov_move (v := .tuple #[.agg #[.func (.func 37) #[] #[], .func (.func 38) #[] #[]], .bool true]) rfl ?_)
      refine st (ov_extract (vs := [.agg #[.func (.func 37) #[] #[], .func (.func 38) #[] #[]], .bool true]) (i := 0) (v := .agg #[.func (.func 37) #[] #[], .func (.func 38) #[] #[]]) rfl rfl ?_)
      refine st (ov_extract (vs := [.agg #[.func (.func 37) #[] #[], .func (.func 38) #[] #[]], .bool true]) (i := 1) (v := .bool true) rfl rfl ?_)
      refine st (ov_alloc Try.zeroValue56 ?_)
      intro w422 b421 hn420
      have hS423 : Sep G W ((Blk b421 #[.nilFunc, .nilFunc] 56) :: (MapH (α := Rul) m23 ruleL) :: (CelW v5 47 3 c) :: (Blk b2 (t.cells dt0).toArray 31) :: Rs) w422 := hS25.new hn420
      refine stn (ov_store (v := .agg #[.func (.func 37) #[] #[], .func (.func 38) #[] #[]]) (c' := #[.func (.func 37) #[] #[], .func (.func 38) #[] #[]]) Try.sizeOf56 rfl rfl (hS423.blk (i := 0) rfl) (all1 ⟨rfl, rfl, trivial⟩) (Nat.le_of_ble_eq_true rfl) rfl ?_)
      intro w424 hp425
      have hS426 : Sep G W ((Blk b421 #[.func (.func 37) #[] #[], .func (.func 38) #[] #[]] 56) :: (MapH (α := Rul) m23 ruleL) :: (CelW v5 47 3 c) :: (Blk b2 (t.cells dt0).toArray 31) :: Rs) w424 := hS423.put (i := 0) rfl hp425
      refine st (ov_assign (v := .bool true) rfl ?_)
      refine st_nil ?_
      refine WP_seq ?_
      refine WP_region0 (by kernel_rfl) (fun _ => ?_)
      refine st (ov_move (v := .bool true) rfl ?_)
      refine st_nil ?_
      refine WP_cond_t rfl ?_
      refine WP_draw4 (WF [fun vals wq => Sep G W ((Blk b421 #[.func (.func 37) #[] #[], .func (.func 38) #[] #[]] 56) :: (MapH (α := Rul) m23 ruleL) :: (CelW v5 47 3 c) :: (Blk b2 (t.cells dt0).toArray 31) :: Rs) wq, fun vals wq => (vals 11 = (.tuple #[] : Value)) ∧ Sep G W ((CelW v5 47 3 (c.set f.toNat (doCel (t.fields.getD f.toNat default) (celAt c f) 3 arg))) :: (Blk b421 #[.func (.func 37) #[] #[], .func (.func 38) #[] #[]] 56) :: (MapH (α := Rul) m23 ruleL) :: (Blk b2 (t.cells dt0).toArray 31) :: Rs) wq]) (AF [fun vals => vals 0 = (.pointer (some ⟨b421, 1, none⟩) : Value), fun vals => vals 1 = (.func (.func 38) #[] #[] : Value), fun vals => vals 2 = (.pointer (some ⟨b2, 0, none⟩) : Value), fun vals => vals 3 = (dt0 : Value), fun vals => vals 4 = (.int .i64 (f) : Value), fun vals => vals 5 = (.pointer (some ⟨sb dt0, so dt0 + f.toNat * 4, none⟩) : Value), fun vals => vals 6 = (.agg ((t.fields.getD f.toNat default).cells (cellV W (sb dt0) (so dt0 + f.toNat * 4 + 3))).toArray : Value), fun vals => vals 7 = (v5 : Value), fun vals => vals 8 = (.int .i64 (f) : Value), fun vals => vals 9 = (.int .i64 (arg) : Value), fun vals => vals 10 = (.agg #[.int .i64 ((t.fields.getD f.toNat default).kind), .int .i64 ((t.fields.getD f.toNat default).policy), .bool ((t.fields.getD f.toNat default).floor), (cellV W (sb dt0) (so dt0 + f.toNat * 4 + 3)), v5, .int .i64 (f), .int .i64 (arg)] : Value), fun _ => True]) [[], [0], [], [2], [], [2, 3, 4], [2, 3, 4, 5], [], [], [], [2, 3, 4, 5, 6, 7, 8, 9], [0, 1, 2, 3, 4, 5, 6, 7, 8, 9, 10]] [11] [(0, 0), (0, 0), (0, 0), (0, 0), (0, 0), (0, 0), (0, 0), (0, 0), (0, 0), (0, 0), (0, 0), (0, 0)] (by kernel_rfl) (by kernel_rfl) (by kernel_rfl) rfl (by kernel_rfl) (by kernel_rfl) (fun _ h1 h2 h3 h4 _ => hS426.same h1 h2 h3 h4) ?_ ?_ ⟨?_, ?_, ?_, ?_, ?_, ?_, ?_, ?_, ?_, ?_, ?_, ?_, trivial⟩ ?_
      · intro k vals vals' w hv h
        have e : ∀ j ∈ ([11] : List Nat), vals' j = vals j := hv
        match k, h with
        | 0, h => exact h
        | 1, h => exact (by simpa only [WF, List.getElem?_cons_zero, List.getElem?_cons_succ, e 11 (by decide)] using h)
        | _ + 2, _ => trivial
      · intro i vals vals' hv h
        match i, hv, h with
        | 0, hv, h => exact (hv 0 (.inl rfl)).trans h
        | 1, hv, h => exact (hv 1 (.inl rfl)).trans h
        | 2, hv, h => exact (hv 2 (.inl rfl)).trans h
        | 3, hv, h => exact (hv 3 (.inl rfl)).trans h
        | 4, hv, h => exact (hv 4 (.inl rfl)).trans h
        | 5, hv, h => exact (hv 5 (.inl rfl)).trans h
        | 6, hv, h => exact (hv 6 (.inl rfl)).trans h
        | 7, hv, h => exact (hv 7 (.inl rfl)).trans h
        | 8, hv, h => exact (hv 8 (.inl rfl)).trans h
        | 9, hv, h => exact (hv 9 (.inl rfl)).trans h
        | 10, hv, h => exact (hv 10 (.inl rfl)).trans h
        | 11, _, _ => trivial
        | _ + 12, _, _ => trivial
      · intro k525 vals w526 h529 h530 hW528 hA527
        refine obl rfl ?_
        exact fd56_1 rfl (fun vals' hv _ => ⟨rfl, hv⟩)
      · intro k531 vals w532 h535 h536 hW534 hA533
        obtain rfl : k531 = 0 := Nat.le_antisymm h536 h535
        have hS537 : Sep G W ((Blk b421 #[.func (.func 37) #[] #[], .func (.func 38) #[] #[]] 56) :: (MapH (α := Rul) m23 ruleL) :: (CelW v5 47 3 c) :: (Blk b2 (t.cells dt0).toArray 31) :: Rs) w532 := hW534
        have e538 : vals 0 = (.pointer (some ⟨b421, 1, none⟩) : Value) := hA533 0 (by decide)
        refine obl rfl ?_
        exact ov_load1 (v := .func (.func 38) #[] #[]) Try.isAgg54 (show _ = (.pointer (some ⟨b421, 1, none⟩) : Value) from e538) (blk_cellL (hS537.blk (i := 0) rfl) rfl) (fun vals' hv _ => ⟨rfl, hv⟩)
      · intro k539 vals w540 h543 h544 hW542 hA541
        refine obl rfl ?_
        exact fd31_0 rfl (fun vals' hv _ => ⟨rfl, hv⟩)
      · intro k545 vals w546 h549 h550 hW548 hA547
        obtain rfl : k545 = 0 := Nat.le_antisymm h550 h549
        have hS551 : Sep G W ((Blk b421 #[.func (.func 37) #[] #[], .func (.func 38) #[] #[]] 56) :: (MapH (α := Rul) m23 ruleL) :: (CelW v5 47 3 c) :: (Blk b2 (t.cells dt0).toArray 31) :: Rs) w546 := hW548
        have e552 : vals 2 = (.pointer (some ⟨b2, 0, none⟩) : Value) := hA547 2 (by decide)
        refine obl rfl ?_
        exact ov_load1 (v := dt0) Try.isAgg29 (show _ = (.pointer (some ⟨b2, 0, none⟩) : Value) from e552) (blk_cellL (hS551.blk (i := 3) rfl) rfl) (fun vals' hv _ => ⟨rfl, hv⟩)
      · intro k553 vals w554 h557 h558 hW556 hA555
        refine obl rfl ?_
        exact ov_move (v := .int .i64 (f)) rfl (fun vals' hv _ => ⟨rfl, hv⟩)
      · intro k559 vals w560 h563 h564 hW562 hA561
        obtain rfl : k559 = 0 := Nat.le_antisymm h564 h563
        have hS565 : Sep G W ((Blk b421 #[.func (.func 37) #[] #[], .func (.func 38) #[] #[]] 56) :: (MapH (α := Rul) m23 ruleL) :: (CelW v5 47 3 c) :: (Blk b2 (t.cells dt0).toArray 31) :: Rs) w560 := hW562
        have e566 : vals 3 = (dt0 : Value) := hA561 3 (by decide)
        have e567 : vals 4 = (.int .i64 (f) : Value) := hA561 4 (by decide)
        refine obl rfl ?_
        have hi568 : f.toNat < t.fields.length := (by have h1 := hak.1; have h2 := hak.2.1; have h3 := hak.2.2.1; omega)
        exact ov_indexAddr (k := 4) (i := f) Try.underlying29 Try.sizeOf36 (show _ = (dt0 : Value) from e566) hdt0.sl (show _ = (.int .i64 (f) : Value) from e567) ⟨by omega, by omega⟩ (fun vals' hv _ => ⟨rfl, hv⟩)
      · intro k569 vals w570 h573 h574 hW572 hA571
        obtain rfl : k569 = 0 := Nat.le_antisymm h574 h573
        have hS575 : Sep G W ((Blk b421 #[.func (.func 37) #[] #[], .func (.func 38) #[] #[]] 56) :: (MapH (α := Rul) m23 ruleL) :: (CelW v5 47 3 c) :: (Blk b2 (t.cells dt0).toArray 31) :: Rs) w570 := hW572
        have e576 : vals 5 = (.pointer (some ⟨sb dt0, so dt0 + f.toNat * 4, none⟩) : Value) := hA571 5 (by decide)
        refine obl rfl ?_
        have hi578 : f.toNat < t.fields.length := (by have h1 := hak.1; have h2 := hak.2.1; have h3 := hak.2.2.1; omega)
        obtain ⟨hce577, hde577_0, hoke577⟩ := hdt0.fld hi578
        rw [← getD_at default hi578] at hce577 hde577_0 hoke577
        have hsm579 : ((t.fields.getD f.toNat default).moves).length * 32 ≤ 140737488355328 := hde577_0.small
        have hcw580 := hS575.cells hce577 (hdt0.foot (ne_of_lt hi578))
        exact ov_loadk (k := 4) Try.isAgg36 Try.sizeOf36 rfl (show _ = (.pointer (some ⟨sb dt0, so dt0 + f.toNat * 4, none⟩) : Value) from e576) hcw580 (fun vals' hv _ => ⟨rfl, hv⟩)
      · intro k581 vals w582 h585 h586 hW584 hA583
        refine obl rfl ?_
        exact ov_move (v := v5) rfl (fun vals' hv _ => ⟨rfl, hv⟩)
      · intro k587 vals w588 h591 h592 hW590 hA589
        refine obl rfl ?_
        exact ov_move (v := .int .i64 (f)) rfl (fun vals' hv _ => ⟨rfl, hv⟩)
      · intro k593 vals w594 h597 h598 hW596 hA595
        refine obl rfl ?_
        exact ov_move (v := .int .i64 (arg)) rfl (fun vals' hv _ => ⟨rfl, hv⟩)
      · intro k599 vals w600 h603 h604 hW602 hA601
        have e605 : vals 6 = (.agg ((t.fields.getD f.toNat default).cells (cellV W (sb dt0) (so dt0 + f.toNat * 4 + 3))).toArray : Value) := hA601 6 (by decide)
        have e606 : vals 7 = (v5 : Value) := hA601 7 (by decide)
        have e607 : vals 8 = (.int .i64 (f) : Value) := hA601 8 (by decide)
        have e608 : vals 9 = (.int .i64 (arg) : Value) := hA601 9 (by decide)
        refine obl rfl ?_
        exact ov_build (parts' := [(0, .agg ((t.fields.getD f.toNat default).cells (cellV W (sb dt0) (so dt0 + f.toNat * 4 + 3))).toArray), (1, v5), (2, .int .i64 (f)), (3, .int .i64 (arg))]) (v := .agg #[.int .i64 ((t.fields.getD f.toNat default).kind), .int .i64 ((t.fields.getD f.toNat default).policy), .bool ((t.fields.getD f.toNat default).floor), (cellV W (sb dt0) (so dt0 + f.toNat * 4 + 3)), v5, .int .i64 (f), .int .i64 (arg)]) (mapP ⟨rfl, (show _ = (.agg ((t.fields.getD f.toNat default).cells (cellV W (sb dt0) (so dt0 + f.toNat * 4 + 3))).toArray : Value) from e605), rfl, (show _ = (v5 : Value) from e606), rfl, (show _ = (.int .i64 (f) : Value) from e607), rfl, (show _ = (.int .i64 (arg) : Value) from e608), trivial⟩) (by obtain ⟨_, _, hv609, _⟩ := hr20.1; rw [show v5 = Value.slice _ _ _ from hv609]; simp [Instr.build, Instr.fill, Ev.cells, go_sem, Mv.cells, Fld.cells, Typ.cells, Prj.cells, Dcl.cells, Cel.cells, AskR.cells]) (fun vals' hv _ => ⟨rfl, hv⟩)
      · intro k512 vals w513 h516 h517 hW515 hA514
        obtain rfl : k512 = 0 := Nat.le_antisymm h517 h516
        have hS518 : Sep G W ((Blk b421 #[.func (.func 37) #[] #[], .func (.func 38) #[] #[]] 56) :: (MapH (α := Rul) m23 ruleL) :: (CelW v5 47 3 c) :: (Blk b2 (t.cells dt0).toArray 31) :: Rs) w513 := hW515
        have e519 : vals 1 = (.func (.func 38) #[] #[] : Value) := hA514 1 (by decide)
        have e520 : vals 10 = (.agg #[.int .i64 ((t.fields.getD f.toNat default).kind), .int .i64 ((t.fields.getD f.toNat default).policy), .bool ((t.fields.getD f.toNat default).floor), (cellV W (sb dt0) (so dt0 + f.toNat * 4 + 3)), v5, .int .i64 (f), .int .i64 (arg)] : Value) := hA514 10 (by decide)
        refine obl rfl ?_
        have hS521 : Sep G W ((CelW v5 47 3 c) :: (Blk b421 #[.func (.func 37) #[] #[], .func (.func 38) #[] #[]] 56) :: (MapH (α := Rul) m23 ruleL) :: (Blk b2 (t.cells dt0).toArray 31) :: Rs) w513 := hS518.sel 4 [2, 0, 1, 3] (Nat.le_add_left _ _) rfl rfl
        refine (ov_call (f := 38) (vals := [.agg #[.int .i64 ((t.fields.getD f.toNat default).kind), .int .i64 ((t.fields.getD f.toNat default).policy), .bool ((t.fields.getD f.toNat default).floor), (cellV W (sb dt0) (so dt0 + f.toNat * 4 + 3)), v5, .int .i64 (f), .int .i64 (arg)]]) (cap := []) (show _ = (.func (.func 38) #[] #[] : Value) from e519) (mapL ⟨(show _ = (.agg #[.int .i64 ((t.fields.getD f.toNat default).kind), .int .i64 ((t.fields.getD f.toNat default).policy), .bool ((t.fields.getD f.toNat default).floor), (cellV W (sb dt0) (so dt0 + f.toNat * 4 + 3)), v5, .int .i64 (f), .int .i64 (arg)] : Value) from e520), trivial⟩) Try.call38 (D_doAdd  hS521 (⟨hak.1, hak.2.2.1⟩) (hf) (harg) (hak.2.2.2.1 (.inl hop)) (hfew hop)) ?_)
        rintro _ w522 ⟨rfl, hS523⟩
        intro vals' hv hv'
        refine ⟨?_, trivial⟩
        show (vals' 11 = (.tuple #[] : Value)) ∧ Sep G W ((CelW v5 47 3 (c.set f.toNat (doCel (t.fields.getD f.toNat default) (celAt c f) 3 arg))) :: (Blk b421 #[.func (.func 37) #[] #[], .func (.func 38) #[] #[]] 56) :: (MapH (α := Rul) m23 ruleL) :: (Blk b2 (t.cells dt0).toArray 31) :: Rs) w522
        exact ⟨hv, hS523⟩
      intro vals w610 hW611 hA612
      obtain ⟨he524, hS613⟩ : (vals 11 = (.tuple #[] : Value)) ∧ Sep G W ((CelW v5 47 3 (c.set f.toNat (doCel (t.fields.getD f.toNat default) (celAt c f) 3 arg))) :: (Blk b421 #[.func (.func 37) #[] #[], .func (.func 38) #[] #[]] 56) :: (MapH (α := Rul) m23 ruleL) :: (Blk b2 (t.cells dt0).toArray 31) :: Rs) w610 := hW611
      refine st_env (kv := [(1, vc), (2, .int .i64 (f)), (3, .int .i64 (op)), (4, .int .i64 (arg)), (5, .pointer (some ⟨b2, 0, none⟩)), (10, (.slice none 0 0)), (11, v5), (18, .int .i64 ((sh9.length : Nat) : Int)), (19, .int .i64 ((k : Nat) : Int)), (20, .bool false), (34, .map (some m23)), (35, .int .i64 (op)), (36, .tuple #[.agg #[.func (.func 37) #[] #[], .func (.func 38) #[] #[]], .bool true]), (33, .tuple #[.agg #[.func (.func 37) #[] #[], .func (.func 38) #[] #[]], .bool true]), (37, .agg #[.func (.func 37) #[] #[], .func (.func 38) #[] #[]]), (38, .bool true), (13, .pointer (some ⟨b421, 0, none⟩)), (14, .bool true), (39, .bool true)]) ⟨rfl, rfl, rfl, rfl, rfl, rfl, rfl, rfl, rfl, rfl, rfl, rfl, rfl, rfl, rfl, rfl, rfl, rfl, rfl, trivial⟩ (fun ρw610 => ?_)
      refine st_nil ?_
      refine WP_seq ?_
      refine WP_region0 (by kernel_rfl) (fun _ => ?_)
      refine st (ov_move (v := v5) rfl ?_)
      refine st (ov_assign (v := v5) rfl ?_)
      refine st_nil ?_
      refine WP_ret ?_
      refine fin1 Try.results11 (show _ = (v5 : Value) from rfl) ?_
      have hS614 : Sep G W ((RowE (α := Cel) own 47 v5 (c.set f.toNat (doCel (t.fields.getD f.toNat default) (celAt c f) 3 arg))) :: (Blk b421 #[.func (.func 37) #[] #[], .func (.func 38) #[] #[]] 56) :: (MapH (α := Rul) m23 ruleL) :: (Blk b2 (t.cells dt0).toArray 31) :: Rs) w610 := CelW.row hS613
      have hS615 : Sep G W ((RowE (α := Cel) own 47 v5 (doL t c f op arg)) :: (Blk b421 #[.func (.func 37) #[] #[], .func (.func 38) #[] #[]] 56) :: (MapH (α := Rul) m23 ruleL) :: (Blk b2 (t.cells dt0).toArray 31) :: Rs) w610 := by subst hop; exact hS614
      have hS616 : Sep G W ((RowE (α := Cel) own 47 v5 (doL t c f op arg)) :: Rs) w610 := hS615.sel 4 [0] (Nat.le_add_left _ _) rfl rfl
      refine ⟨v5, rfl, hS616⟩
    · skip
      refine st (ov_lookupSome (α := Rul) (a := ⟨35, 39⟩) Try.underlying58 Try.underlying3 rfl rfl (hS25.map_ (i := 0) rfl) (by rw [hop]; rfl) ?_)
      rintro _ rfl
      refine st (ov_move (v := .tuple #[.agg #[.func (.func 35) #[] #[], .func (.func 39) #[] #[]], .bool true]) rfl ?_)
      refine st (ov_extract (vs := [.agg #[.func (.func 35) #[] #[], .func (.func 39) #[] #[]], .bool true]) (i := 0) (v := .agg #[.func (.func 35) #[] #[], .func (.func 39) #[] #[]]) rfl rfl ?_)
      refine st (ov_extract (vs := [.agg #[.func (.func 35) #[] #[], .func (.func 39) #[] #[]], .bool true]) (i := 1) (v := .bool true) rfl rfl ?_)
      refine st (ov_alloc Try.zeroValue56 ?_)
      intro w619 b618 hn617
      have hS620 : Sep G W ((Blk b618 #[.nilFunc, .nilFunc] 56) :: (MapH (α := Rul) m23 ruleL) :: (CelW v5 47 3 c) :: (Blk b2 (t.cells dt0).toArray 31) :: Rs) w619 := hS25.new hn617
      refine stn (ov_store (v := .agg #[.func (.func 35) #[] #[], .func (.func 39) #[] #[]]) (c' := #[.func (.func 35) #[] #[], .func (.func 39) #[] #[]]) Try.sizeOf56 rfl rfl (hS620.blk (i := 0) rfl) (all1 ⟨rfl, rfl, trivial⟩) (Nat.le_of_ble_eq_true rfl) rfl ?_)
      intro w621 hp622
      have hS623 : Sep G W ((Blk b618 #[.func (.func 35) #[] #[], .func (.func 39) #[] #[]] 56) :: (MapH (α := Rul) m23 ruleL) :: (CelW v5 47 3 c) :: (Blk b2 (t.cells dt0).toArray 31) :: Rs) w621 := hS620.put (i := 0) rfl hp622
      refine st (ov_assign (v := .bool true) rfl ?_)
      refine st_nil ?_
      refine WP_seq ?_
      refine WP_region0 (by kernel_rfl) (fun _ => ?_)
      refine st (ov_move (v := .bool true) rfl ?_)
      refine st_nil ?_
      refine WP_cond_t rfl ?_
      refine WP_draw4 (WF [fun vals wq => Sep G W ((Blk b618 #[.func (.func 35) #[] #[], .func (.func 39) #[] #[]] 56) :: (MapH (α := Rul) m23 ruleL) :: (CelW v5 47 3 c) :: (Blk b2 (t.cells dt0).toArray 31) :: Rs) wq, fun vals wq => (vals 11 = (.tuple #[] : Value)) ∧ Sep G W ((CelW v5 47 3 (c.set f.toNat (doCel (t.fields.getD f.toNat default) (celAt c f) 4 arg))) :: (Blk b618 #[.func (.func 35) #[] #[], .func (.func 39) #[] #[]] 56) :: (MapH (α := Rul) m23 ruleL) :: (Blk b2 (t.cells dt0).toArray 31) :: Rs) wq]) (AF [fun vals => vals 0 = (.pointer (some ⟨b618, 1, none⟩) : Value), fun vals => vals 1 = (.func (.func 39) #[] #[] : Value), fun vals => vals 2 = (.pointer (some ⟨b2, 0, none⟩) : Value), fun vals => vals 3 = (dt0 : Value), fun vals => vals 4 = (.int .i64 (f) : Value), fun vals => vals 5 = (.pointer (some ⟨sb dt0, so dt0 + f.toNat * 4, none⟩) : Value), fun vals => vals 6 = (.agg ((t.fields.getD f.toNat default).cells (cellV W (sb dt0) (so dt0 + f.toNat * 4 + 3))).toArray : Value), fun vals => vals 7 = (v5 : Value), fun vals => vals 8 = (.int .i64 (f) : Value), fun vals => vals 9 = (.int .i64 (arg) : Value), fun vals => vals 10 = (.agg #[.int .i64 ((t.fields.getD f.toNat default).kind), .int .i64 ((t.fields.getD f.toNat default).policy), .bool ((t.fields.getD f.toNat default).floor), (cellV W (sb dt0) (so dt0 + f.toNat * 4 + 3)), v5, .int .i64 (f), .int .i64 (arg)] : Value), fun _ => True]) [[], [0], [], [2], [], [2, 3, 4], [2, 3, 4, 5], [], [], [], [2, 3, 4, 5, 6, 7, 8, 9], [0, 1, 2, 3, 4, 5, 6, 7, 8, 9, 10]] [11] [(0, 0), (0, 0), (0, 0), (0, 0), (0, 0), (0, 0), (0, 0), (0, 0), (0, 0), (0, 0), (0, 0), (0, 0)] (by kernel_rfl) (by kernel_rfl) (by kernel_rfl) rfl (by kernel_rfl) (by kernel_rfl) (fun _ h1 h2 h3 h4 _ => hS623.same h1 h2 h3 h4) ?_ ?_ ⟨?_, ?_, ?_, ?_, ?_, ?_, ?_, ?_, ?_, ?_, ?_, ?_, trivial⟩ ?_
      · intro k vals vals' w hv h
        have e : ∀ j ∈ ([11] : List Nat), vals' j = vals j := hv
        match k, h with
        | 0, h => exact h
        | 1, h => exact (by simpa only [WF, List.getElem?_cons_zero, List.getElem?_cons_succ, e 11 (by decide)] using h)
        | _ + 2, _ => trivial
      · intro i vals vals' hv h
        match i, hv, h with
        | 0, hv, h => exact (hv 0 (.inl rfl)).trans h
        | 1, hv, h => exact (hv 1 (.inl rfl)).trans h
        | 2, hv, h => exact (hv 2 (.inl rfl)).trans h
        | 3, hv, h => exact (hv 3 (.inl rfl)).trans h
        | 4, hv, h => exact (hv 4 (.inl rfl)).trans h
        | 5, hv, h => exact (hv 5 (.inl rfl)).trans h
        | 6, hv, h => exact (hv 6 (.inl rfl)).trans h
        | 7, hv, h => exact (hv 7 (.inl rfl)).trans h
        | 8, hv, h => exact (hv 8 (.inl rfl)).trans h
        | 9, hv, h => exact (hv 9 (.inl rfl)).trans h
        | 10, hv, h => exact (hv 10 (.inl rfl)).trans h
        | 11, _, _ => trivial
        | _ + 12, _, _ => trivial
      · intro k722 vals w723 h726 h727 hW725 hA724
        refine obl rfl ?_
        exact fd56_1 rfl (fun vals' hv _ => ⟨rfl, hv⟩)
      · intro k728 vals w729 h732 h733 hW731 hA730
        obtain rfl : k728 = 0 := Nat.le_antisymm h733 h732
        have hS734 : Sep G W ((Blk b618 #[.func (.func 35) #[] #[], .func (.func 39) #[] #[]] 56) :: (MapH (α := Rul) m23 ruleL) :: (CelW v5 47 3 c) :: (Blk b2 (t.cells dt0).toArray 31) :: Rs) w729 := hW731
        have e735 : vals 0 = (.pointer (some ⟨b618, 1, none⟩) : Value) := hA730 0 (by decide)
        refine obl rfl ?_
        exact ov_load1 (v := .func (.func 39) #[] #[]) Try.isAgg54 (show _ = (.pointer (some ⟨b618, 1, none⟩) : Value) from e735) (blk_cellL (hS734.blk (i := 0) rfl) rfl) (fun vals' hv _ => ⟨rfl, hv⟩)
      · intro k736 vals w737 h740 h741 hW739 hA738
        refine obl rfl ?_
        exact fd31_0 rfl (fun vals' hv _ => ⟨rfl, hv⟩)
      · intro k742 vals w743 h746 h747 hW745 hA744
        obtain rfl : k742 = 0 := Nat.le_antisymm h747 h746
        have hS748 : Sep G W ((Blk b618 #[.func (.func 35) #[] #[], .func (.func 39) #[] #[]] 56) :: (MapH (α := Rul) m23 ruleL) :: (CelW v5 47 3 c) :: (Blk b2 (t.cells dt0).toArray 31) :: Rs) w743 := hW745
        have e749 : vals 2 = (.pointer (some ⟨b2, 0, none⟩) : Value) := hA744 2 (by decide)
        refine obl rfl ?_
        exact ov_load1 (v := dt0) Try.isAgg29 (show _ = (.pointer (some ⟨b2, 0, none⟩) : Value) from e749) (blk_cellL (hS748.blk (i := 3) rfl) rfl) (fun vals' hv _ => ⟨rfl, hv⟩)
      · intro k750 vals w751 h754 h755 hW753 hA752
        refine obl rfl ?_
        exact ov_move (v := .int .i64 (f)) rfl (fun vals' hv _ => ⟨rfl, hv⟩)
      · intro k756 vals w757 h760 h761 hW759 hA758
        obtain rfl : k756 = 0 := Nat.le_antisymm h761 h760
        have hS762 : Sep G W ((Blk b618 #[.func (.func 35) #[] #[], .func (.func 39) #[] #[]] 56) :: (MapH (α := Rul) m23 ruleL) :: (CelW v5 47 3 c) :: (Blk b2 (t.cells dt0).toArray 31) :: Rs) w757 := hW759
        have e763 : vals 3 = (dt0 : Value) := hA758 3 (by decide)
        have e764 : vals 4 = (.int .i64 (f) : Value) := hA758 4 (by decide)
        refine obl rfl ?_
        have hi765 : f.toNat < t.fields.length := (by have h1 := hak.1; have h2 := hak.2.1; have h3 := hak.2.2.1; omega)
        exact ov_indexAddr (k := 4) (i := f) Try.underlying29 Try.sizeOf36 (show _ = (dt0 : Value) from e763) hdt0.sl (show _ = (.int .i64 (f) : Value) from e764) ⟨by omega, by omega⟩ (fun vals' hv _ => ⟨rfl, hv⟩)
      · intro k766 vals w767 h770 h771 hW769 hA768
        obtain rfl : k766 = 0 := Nat.le_antisymm h771 h770
        have hS772 : Sep G W ((Blk b618 #[.func (.func 35) #[] #[], .func (.func 39) #[] #[]] 56) :: (MapH (α := Rul) m23 ruleL) :: (CelW v5 47 3 c) :: (Blk b2 (t.cells dt0).toArray 31) :: Rs) w767 := hW769
        have e773 : vals 5 = (.pointer (some ⟨sb dt0, so dt0 + f.toNat * 4, none⟩) : Value) := hA768 5 (by decide)
        refine obl rfl ?_
        have hi775 : f.toNat < t.fields.length := (by have h1 := hak.1; have h2 := hak.2.1; have h3 := hak.2.2.1; omega)
        obtain ⟨hce774, hde774_0, hoke774⟩ := hdt0.fld hi775
        rw [← getD_at default hi775] at hce774 hde774_0 hoke774
        have hsm776 : ((t.fields.getD f.toNat default).moves).length * 32 ≤ 140737488355328 := hde774_0.small
        have hcw777 := hS772.cells hce774 (hdt0.foot (ne_of_lt hi775))
        exact ov_loadk (k := 4) Try.isAgg36 Try.sizeOf36 rfl (show _ = (.pointer (some ⟨sb dt0, so dt0 + f.toNat * 4, none⟩) : Value) from e773) hcw777 (fun vals' hv _ => ⟨rfl, hv⟩)
      · intro k778 vals w779 h782 h783 hW781 hA780
        refine obl rfl ?_
        exact ov_move (v := v5) rfl (fun vals' hv _ => ⟨rfl, hv⟩)
      · intro k784 vals w785 h788 h789 hW787 hA786
        refine obl rfl ?_
        exact ov_move (v := .int .i64 (f)) rfl (fun vals' hv _ => ⟨rfl, hv⟩)
      · intro k790 vals w791 h794 h795 hW793 hA792
        refine obl rfl ?_
        exact ov_move (v := .int .i64 (arg)) rfl (fun vals' hv _ => ⟨rfl, hv⟩)
      · intro k796 vals w797 h800 h801 hW799 hA798
        have e802 : vals 6 = (.agg ((t.fields.getD f.toNat default).cells (cellV W (sb dt0) (so dt0 + f.toNat * 4 + 3))).toArray : Value) := hA798 6 (by decide)
        have e803 : vals 7 = (v5 : Value) := hA798 7 (by decide)
        have e804 : vals 8 = (.int .i64 (f) : Value) := hA798 8 (by decide)
        have e805 : vals 9 = (.int .i64 (arg) : Value) := hA798 9 (by decide)
        refine obl rfl ?_
        exact ov_build (parts' := [(0, .agg ((t.fields.getD f.toNat default).cells (cellV W (sb dt0) (so dt0 + f.toNat * 4 + 3))).toArray), (1, v5), (2, .int .i64 (f)), (3, .int .i64 (arg))]) (v := .agg #[.int .i64 ((t.fields.getD f.toNat default).kind), .int .i64 ((t.fields.getD f.toNat default).policy), .bool ((t.fields.getD f.toNat default).floor), (cellV W (sb dt0) (so dt0 + f.toNat * 4 + 3)), v5, .int .i64 (f), .int .i64 (arg)]) (mapP ⟨rfl, (show _ = (.agg ((t.fields.getD f.toNat default).cells (cellV W (sb dt0) (so dt0 + f.toNat * 4 + 3))).toArray : Value) from e802), rfl, (show _ = (v5 : Value) from e803), rfl, (show _ = (.int .i64 (f) : Value) from e804), rfl, (show _ = (.int .i64 (arg) : Value) from e805), trivial⟩) (by obtain ⟨_, _, hv806, _⟩ := hr20.1; rw [show v5 = Value.slice _ _ _ from hv806]; simp [Instr.build, Instr.fill, Ev.cells, go_sem, Mv.cells, Fld.cells, Typ.cells, Prj.cells, Dcl.cells, Cel.cells, AskR.cells]) (fun vals' hv _ => ⟨rfl, hv⟩)
      · intro k709 vals w710 h713 h714 hW712 hA711
        obtain rfl : k709 = 0 := Nat.le_antisymm h714 h713
        have hS715 : Sep G W ((Blk b618 #[.func (.func 35) #[] #[], .func (.func 39) #[] #[]] 56) :: (MapH (α := Rul) m23 ruleL) :: (CelW v5 47 3 c) :: (Blk b2 (t.cells dt0).toArray 31) :: Rs) w710 := hW712
        have e716 : vals 1 = (.func (.func 39) #[] #[] : Value) := hA711 1 (by decide)
        have e717 : vals 10 = (.agg #[.int .i64 ((t.fields.getD f.toNat default).kind), .int .i64 ((t.fields.getD f.toNat default).policy), .bool ((t.fields.getD f.toNat default).floor), (cellV W (sb dt0) (so dt0 + f.toNat * 4 + 3)), v5, .int .i64 (f), .int .i64 (arg)] : Value) := hA711 10 (by decide)
        refine obl rfl ?_
        have hS718 : Sep G W ((CelW v5 47 3 c) :: (Blk b618 #[.func (.func 35) #[] #[], .func (.func 39) #[] #[]] 56) :: (MapH (α := Rul) m23 ruleL) :: (Blk b2 (t.cells dt0).toArray 31) :: Rs) w710 := hS715.sel 4 [2, 0, 1, 3] (Nat.le_add_left _ _) rfl rfl
        refine (ov_call (f := 39) (vals := [.agg #[.int .i64 ((t.fields.getD f.toNat default).kind), .int .i64 ((t.fields.getD f.toNat default).policy), .bool ((t.fields.getD f.toNat default).floor), (cellV W (sb dt0) (so dt0 + f.toNat * 4 + 3)), v5, .int .i64 (f), .int .i64 (arg)]]) (cap := []) (show _ = (.func (.func 39) #[] #[] : Value) from e716) (mapL ⟨(show _ = (.agg #[.int .i64 ((t.fields.getD f.toNat default).kind), .int .i64 ((t.fields.getD f.toNat default).policy), .bool ((t.fields.getD f.toNat default).floor), (cellV W (sb dt0) (so dt0 + f.toNat * 4 + 3)), v5, .int .i64 (f), .int .i64 (arg)] : Value) from e717), trivial⟩) Try.call39 (D_doRem  hS718 (⟨hak.1, hak.2.2.1⟩) (hf) (harg) (hak.2.2.2.1 (.inr hop))) ?_)
        rintro _ w719 ⟨rfl, hS720⟩
        intro vals' hv hv'
        refine ⟨?_, trivial⟩
        show (vals' 11 = (.tuple #[] : Value)) ∧ Sep G W ((CelW v5 47 3 (c.set f.toNat (doCel (t.fields.getD f.toNat default) (celAt c f) 4 arg))) :: (Blk b618 #[.func (.func 35) #[] #[], .func (.func 39) #[] #[]] 56) :: (MapH (α := Rul) m23 ruleL) :: (Blk b2 (t.cells dt0).toArray 31) :: Rs) w719
        exact ⟨hv, hS720⟩
      intro vals w807 hW808 hA809
      obtain ⟨he721, hS810⟩ : (vals 11 = (.tuple #[] : Value)) ∧ Sep G W ((CelW v5 47 3 (c.set f.toNat (doCel (t.fields.getD f.toNat default) (celAt c f) 4 arg))) :: (Blk b618 #[.func (.func 35) #[] #[], .func (.func 39) #[] #[]] 56) :: (MapH (α := Rul) m23 ruleL) :: (Blk b2 (t.cells dt0).toArray 31) :: Rs) w807 := hW808
      refine st_env (kv := [(1, vc), (2, .int .i64 (f)), (3, .int .i64 (op)), (4, .int .i64 (arg)), (5, .pointer (some ⟨b2, 0, none⟩)), (10, (.slice none 0 0)), (11, v5), (18, .int .i64 ((sh9.length : Nat) : Int)), (19, .int .i64 ((k : Nat) : Int)), (20, .bool false), (34, .map (some m23)), (35, .int .i64 (op)), (36, .tuple #[.agg #[.func (.func 35) #[] #[], .func (.func 39) #[] #[]], .bool true]), (33, .tuple #[.agg #[.func (.func 35) #[] #[], .func (.func 39) #[] #[]], .bool true]), (37, .agg #[.func (.func 35) #[] #[], .func (.func 39) #[] #[]]), (38, .bool true), (13, .pointer (some ⟨b618, 0, none⟩)), (14, .bool true), (39, .bool true)]) ⟨rfl, rfl, rfl, rfl, rfl, rfl, rfl, rfl, rfl, rfl, rfl, rfl, rfl, rfl, rfl, rfl, rfl, rfl, rfl, trivial⟩ (fun ρw807 => ?_)
      refine st_nil ?_
      refine WP_seq ?_
      refine WP_region0 (by kernel_rfl) (fun _ => ?_)
      refine st (ov_move (v := v5) rfl ?_)
      refine st (ov_assign (v := v5) rfl ?_)
      refine st_nil ?_
      refine WP_ret ?_
      refine fin1 Try.results11 (show _ = (v5 : Value) from rfl) ?_
      have hS811 : Sep G W ((RowE (α := Cel) own 47 v5 (c.set f.toNat (doCel (t.fields.getD f.toNat default) (celAt c f) 4 arg))) :: (Blk b618 #[.func (.func 35) #[] #[], .func (.func 39) #[] #[]] 56) :: (MapH (α := Rul) m23 ruleL) :: (Blk b2 (t.cells dt0).toArray 31) :: Rs) w807 := CelW.row hS810
      have hS812 : Sep G W ((RowE (α := Cel) own 47 v5 (doL t c f op arg)) :: (Blk b618 #[.func (.func 35) #[] #[], .func (.func 39) #[] #[]] 56) :: (MapH (α := Rul) m23 ruleL) :: (Blk b2 (t.cells dt0).toArray 31) :: Rs) w807 := by subst hop; exact hS811
      have hS813 : Sep G W ((RowE (α := Cel) own 47 v5 (doL t c f op arg)) :: Rs) w807 := hS812.sel 4 [0] (Nat.le_add_left _ _) rfl rfl
      refine ⟨v5, rfl, hS813⟩
    · skip
      refine st (ov_lookupSome (α := Rul) (a := ⟨40, 41⟩) Try.underlying58 Try.underlying3 rfl rfl (hS25.map_ (i := 0) rfl) (by rw [hop]; rfl) ?_)
      rintro _ rfl
      refine st (ov_move (v := .tuple #[.agg #[.func (.func 40) #[] #[], .func (.func 41) #[] #[]], .bool true]) rfl ?_)
      refine st (ov_extract (vs := [.agg #[.func (.func 40) #[] #[], .func (.func 41) #[] #[]], .bool true]) (i := 0) (v := .agg #[.func (.func 40) #[] #[], .func (.func 41) #[] #[]]) rfl rfl ?_)
      refine st (ov_extract (vs := [.agg #[.func (.func 40) #[] #[], .func (.func 41) #[] #[]], .bool true]) (i := 1) (v := .bool true) rfl rfl ?_)
      refine st (ov_alloc Try.zeroValue56 ?_)
      intro w816 b815 hn814
      have hS817 : Sep G W ((Blk b815 #[.nilFunc, .nilFunc] 56) :: (MapH (α := Rul) m23 ruleL) :: (CelW v5 47 3 c) :: (Blk b2 (t.cells dt0).toArray 31) :: Rs) w816 := hS25.new hn814
      refine stn (ov_store (v := .agg #[.func (.func 40) #[] #[], .func (.func 41) #[] #[]]) (c' := #[.func (.func 40) #[] #[], .func (.func 41) #[] #[]]) Try.sizeOf56 rfl rfl (hS817.blk (i := 0) rfl) (all1 ⟨rfl, rfl, trivial⟩) (Nat.le_of_ble_eq_true rfl) rfl ?_)
      intro w818 hp819
      have hS820 : Sep G W ((Blk b815 #[.func (.func 40) #[] #[], .func (.func 41) #[] #[]] 56) :: (MapH (α := Rul) m23 ruleL) :: (CelW v5 47 3 c) :: (Blk b2 (t.cells dt0).toArray 31) :: Rs) w818 := hS817.put (i := 0) rfl hp819
      refine st (ov_assign (v := .bool true) rfl ?_)
      refine st_nil ?_
      refine WP_seq ?_
      refine WP_region0 (by kernel_rfl) (fun _ => ?_)
      refine st (ov_move (v := .bool true) rfl ?_)
      refine st_nil ?_
      refine WP_cond_t rfl ?_
      refine WP_draw4 (WF [fun vals wq => Sep G W ((Blk b815 #[.func (.func 40) #[] #[], .func (.func 41) #[] #[]] 56) :: (MapH (α := Rul) m23 ruleL) :: (CelW v5 47 3 c) :: (Blk b2 (t.cells dt0).toArray 31) :: Rs) wq, fun vals wq => (vals 11 = (.tuple #[] : Value)) ∧ Sep G W ((CelW v5 47 3 (c.set f.toNat (doCel (t.fields.getD f.toNat default) (celAt c f) 5 arg))) :: (Blk b815 #[.func (.func 40) #[] #[], .func (.func 41) #[] #[]] 56) :: (MapH (α := Rul) m23 ruleL) :: (Blk b2 (t.cells dt0).toArray 31) :: Rs) wq]) (AF [fun vals => vals 0 = (.pointer (some ⟨b815, 1, none⟩) : Value), fun vals => vals 1 = (.func (.func 41) #[] #[] : Value), fun vals => vals 2 = (.pointer (some ⟨b2, 0, none⟩) : Value), fun vals => vals 3 = (dt0 : Value), fun vals => vals 4 = (.int .i64 (f) : Value), fun vals => vals 5 = (.pointer (some ⟨sb dt0, so dt0 + f.toNat * 4, none⟩) : Value), fun vals => vals 6 = (.agg ((t.fields.getD f.toNat default).cells (cellV W (sb dt0) (so dt0 + f.toNat * 4 + 3))).toArray : Value), fun vals => vals 7 = (v5 : Value), fun vals => vals 8 = (.int .i64 (f) : Value), fun vals => vals 9 = (.int .i64 (arg) : Value), fun vals => vals 10 = (.agg #[.int .i64 ((t.fields.getD f.toNat default).kind), .int .i64 ((t.fields.getD f.toNat default).policy), .bool ((t.fields.getD f.toNat default).floor), (cellV W (sb dt0) (so dt0 + f.toNat * 4 + 3)), v5, .int .i64 (f), .int .i64 (arg)] : Value), fun _ => True]) [[], [0], [], [2], [], [2, 3, 4], [2, 3, 4, 5], [], [], [], [2, 3, 4, 5, 6, 7, 8, 9], [0, 1, 2, 3, 4, 5, 6, 7, 8, 9, 10]] [11] [(0, 0), (0, 0), (0, 0), (0, 0), (0, 0), (0, 0), (0, 0), (0, 0), (0, 0), (0, 0), (0, 0), (0, 0)] (by kernel_rfl) (by kernel_rfl) (by kernel_rfl) rfl (by kernel_rfl) (by kernel_rfl) (fun _ h1 h2 h3 h4 _ => hS820.same h1 h2 h3 h4) ?_ ?_ ⟨?_, ?_, ?_, ?_, ?_, ?_, ?_, ?_, ?_, ?_, ?_, ?_, trivial⟩ ?_
      · intro k vals vals' w hv h
        have e : ∀ j ∈ ([11] : List Nat), vals' j = vals j := hv
        match k, h with
        | 0, h => exact h
        | 1, h => exact (by simpa only [WF, List.getElem?_cons_zero, List.getElem?_cons_succ, e 11 (by decide)] using h)
        | _ + 2, _ => trivial
      · intro i vals vals' hv h
        match i, hv, h with
        | 0, hv, h => exact (hv 0 (.inl rfl)).trans h
        | 1, hv, h => exact (hv 1 (.inl rfl)).trans h
        | 2, hv, h => exact (hv 2 (.inl rfl)).trans h
        | 3, hv, h => exact (hv 3 (.inl rfl)).trans h
        | 4, hv, h => exact (hv 4 (.inl rfl)).trans h
        | 5, hv, h => exact (hv 5 (.inl rfl)).trans h
        | 6, hv, h => exact (hv 6 (.inl rfl)).trans h
        | 7, hv, h => exact (hv 7 (.inl rfl)).trans h
        | 8, hv, h => exact (hv 8 (.inl rfl)).trans h
        | 9, hv, h => exact (hv 9 (.inl rfl)).trans h
        | 10, hv, h => exact (hv 10 (.inl rfl)).trans h
        | 11, _, _ => trivial
        | _ + 12, _, _ => trivial
      · intro k923 vals w924 h927 h928 hW926 hA925
        refine obl rfl ?_
        exact fd56_1 rfl (fun vals' hv _ => ⟨rfl, hv⟩)
      · intro k929 vals w930 h933 h934 hW932 hA931
        obtain rfl : k929 = 0 := Nat.le_antisymm h934 h933
        have hS935 : Sep G W ((Blk b815 #[.func (.func 40) #[] #[], .func (.func 41) #[] #[]] 56) :: (MapH (α := Rul) m23 ruleL) :: (CelW v5 47 3 c) :: (Blk b2 (t.cells dt0).toArray 31) :: Rs) w930 := hW932
        have e936 : vals 0 = (.pointer (some ⟨b815, 1, none⟩) : Value) := hA931 0 (by decide)
        refine obl rfl ?_
        exact ov_load1 (v := .func (.func 41) #[] #[]) Try.isAgg54 (show _ = (.pointer (some ⟨b815, 1, none⟩) : Value) from e936) (blk_cellL (hS935.blk (i := 0) rfl) rfl) (fun vals' hv _ => ⟨rfl, hv⟩)
      · intro k937 vals w938 h941 h942 hW940 hA939
        refine obl rfl ?_
        exact fd31_0 rfl (fun vals' hv _ => ⟨rfl, hv⟩)
      · intro k943 vals w944 h947 h948 hW946 hA945
        obtain rfl : k943 = 0 := Nat.le_antisymm h948 h947
        have hS949 : Sep G W ((Blk b815 #[.func (.func 40) #[] #[], .func (.func 41) #[] #[]] 56) :: (MapH (α := Rul) m23 ruleL) :: (CelW v5 47 3 c) :: (Blk b2 (t.cells dt0).toArray 31) :: Rs) w944 := hW946
        have e950 : vals 2 = (.pointer (some ⟨b2, 0, none⟩) : Value) := hA945 2 (by decide)
        refine obl rfl ?_
        exact ov_load1 (v := dt0) Try.isAgg29 (show _ = (.pointer (some ⟨b2, 0, none⟩) : Value) from e950) (blk_cellL (hS949.blk (i := 3) rfl) rfl) (fun vals' hv _ => ⟨rfl, hv⟩)
      · intro k951 vals w952 h955 h956 hW954 hA953
        refine obl rfl ?_
        exact ov_move (v := .int .i64 (f)) rfl (fun vals' hv _ => ⟨rfl, hv⟩)
      · intro k957 vals w958 h961 h962 hW960 hA959
        obtain rfl : k957 = 0 := Nat.le_antisymm h962 h961
        have hS963 : Sep G W ((Blk b815 #[.func (.func 40) #[] #[], .func (.func 41) #[] #[]] 56) :: (MapH (α := Rul) m23 ruleL) :: (CelW v5 47 3 c) :: (Blk b2 (t.cells dt0).toArray 31) :: Rs) w958 := hW960
        have e964 : vals 3 = (dt0 : Value) := hA959 3 (by decide)
        have e965 : vals 4 = (.int .i64 (f) : Value) := hA959 4 (by decide)
        refine obl rfl ?_
        have hi966 : f.toNat < t.fields.length := (by have h1 := hak.1; have h2 := hak.2.1; have h3 := hak.2.2.1; omega)
        exact ov_indexAddr (k := 4) (i := f) Try.underlying29 Try.sizeOf36 (show _ = (dt0 : Value) from e964) hdt0.sl (show _ = (.int .i64 (f) : Value) from e965) ⟨by omega, by omega⟩ (fun vals' hv _ => ⟨rfl, hv⟩)
      · intro k967 vals w968 h971 h972 hW970 hA969
        obtain rfl : k967 = 0 := Nat.le_antisymm h972 h971
        have hS973 : Sep G W ((Blk b815 #[.func (.func 40) #[] #[], .func (.func 41) #[] #[]] 56) :: (MapH (α := Rul) m23 ruleL) :: (CelW v5 47 3 c) :: (Blk b2 (t.cells dt0).toArray 31) :: Rs) w968 := hW970
        have e974 : vals 5 = (.pointer (some ⟨sb dt0, so dt0 + f.toNat * 4, none⟩) : Value) := hA969 5 (by decide)
        refine obl rfl ?_
        have hi976 : f.toNat < t.fields.length := (by have h1 := hak.1; have h2 := hak.2.1; have h3 := hak.2.2.1; omega)
        obtain ⟨hce975, hde975_0, hoke975⟩ := hdt0.fld hi976
        rw [← getD_at default hi976] at hce975 hde975_0 hoke975
        have hsm977 : ((t.fields.getD f.toNat default).moves).length * 32 ≤ 140737488355328 := hde975_0.small
        have hcw978 := hS973.cells hce975 (hdt0.foot (ne_of_lt hi976))
        exact ov_loadk (k := 4) Try.isAgg36 Try.sizeOf36 rfl (show _ = (.pointer (some ⟨sb dt0, so dt0 + f.toNat * 4, none⟩) : Value) from e974) hcw978 (fun vals' hv _ => ⟨rfl, hv⟩)
      · intro k979 vals w980 h983 h984 hW982 hA981
        refine obl rfl ?_
        exact ov_move (v := v5) rfl (fun vals' hv _ => ⟨rfl, hv⟩)
      · intro k985 vals w986 h989 h990 hW988 hA987
        refine obl rfl ?_
        exact ov_move (v := .int .i64 (f)) rfl (fun vals' hv _ => ⟨rfl, hv⟩)
      · intro k991 vals w992 h995 h996 hW994 hA993
        refine obl rfl ?_
        exact ov_move (v := .int .i64 (arg)) rfl (fun vals' hv _ => ⟨rfl, hv⟩)
      · intro k997 vals w998 h1001 h1002 hW1000 hA999
        have e1003 : vals 6 = (.agg ((t.fields.getD f.toNat default).cells (cellV W (sb dt0) (so dt0 + f.toNat * 4 + 3))).toArray : Value) := hA999 6 (by decide)
        have e1004 : vals 7 = (v5 : Value) := hA999 7 (by decide)
        have e1005 : vals 8 = (.int .i64 (f) : Value) := hA999 8 (by decide)
        have e1006 : vals 9 = (.int .i64 (arg) : Value) := hA999 9 (by decide)
        refine obl rfl ?_
        exact ov_build (parts' := [(0, .agg ((t.fields.getD f.toNat default).cells (cellV W (sb dt0) (so dt0 + f.toNat * 4 + 3))).toArray), (1, v5), (2, .int .i64 (f)), (3, .int .i64 (arg))]) (v := .agg #[.int .i64 ((t.fields.getD f.toNat default).kind), .int .i64 ((t.fields.getD f.toNat default).policy), .bool ((t.fields.getD f.toNat default).floor), (cellV W (sb dt0) (so dt0 + f.toNat * 4 + 3)), v5, .int .i64 (f), .int .i64 (arg)]) (mapP ⟨rfl, (show _ = (.agg ((t.fields.getD f.toNat default).cells (cellV W (sb dt0) (so dt0 + f.toNat * 4 + 3))).toArray : Value) from e1003), rfl, (show _ = (v5 : Value) from e1004), rfl, (show _ = (.int .i64 (f) : Value) from e1005), rfl, (show _ = (.int .i64 (arg) : Value) from e1006), trivial⟩) (by obtain ⟨_, _, hv1007, _⟩ := hr20.1; rw [show v5 = Value.slice _ _ _ from hv1007]; simp [Instr.build, Instr.fill, Ev.cells, go_sem, Mv.cells, Fld.cells, Typ.cells, Prj.cells, Dcl.cells, Cel.cells, AskR.cells]) (fun vals' hv _ => ⟨rfl, hv⟩)
      · intro k906 vals w907 h910 h911 hW909 hA908
        obtain rfl : k906 = 0 := Nat.le_antisymm h911 h910
        have hS912 : Sep G W ((Blk b815 #[.func (.func 40) #[] #[], .func (.func 41) #[] #[]] 56) :: (MapH (α := Rul) m23 ruleL) :: (CelW v5 47 3 c) :: (Blk b2 (t.cells dt0).toArray 31) :: Rs) w907 := hW909
        have e913 : vals 1 = (.func (.func 41) #[] #[] : Value) := hA908 1 (by decide)
        have e914 : vals 10 = (.agg #[.int .i64 ((t.fields.getD f.toNat default).kind), .int .i64 ((t.fields.getD f.toNat default).policy), .bool ((t.fields.getD f.toNat default).floor), (cellV W (sb dt0) (so dt0 + f.toNat * 4 + 3)), v5, .int .i64 (f), .int .i64 (arg)] : Value) := hA908 10 (by decide)
        refine obl rfl ?_
        have hS915 : Sep G W ((CelW v5 47 3 c) :: (Blk b815 #[.func (.func 40) #[] #[], .func (.func 41) #[] #[]] 56) :: (MapH (α := Rul) m23 ruleL) :: (Blk b2 (t.cells dt0).toArray 31) :: Rs) w907 := hS912.sel 4 [2, 0, 1, 3] (Nat.le_add_left _ _) rfl rfl
        have hi917 : f.toNat < t.fields.length := (by have h1 := hak.1; have h2 := hak.2.1; have h3 := hak.2.2.1; omega)
        obtain ⟨hce916, hde916_0, hoke916⟩ := hdt0.fld hi917
        rw [← getD_at default hi917] at hce916 hde916_0 hoke916
        have hsm918 : ((t.fields.getD f.toNat default).moves).length * 32 ≤ 140737488355328 := hde916_0.small
        have hcw919 := hS915.cells hce916 (hdt0.foot (ne_of_lt hi917))
        refine (ov_call (f := 41) (vals := [.agg #[.int .i64 ((t.fields.getD f.toNat default).kind), .int .i64 ((t.fields.getD f.toNat default).policy), .bool ((t.fields.getD f.toNat default).floor), (cellV W (sb dt0) (so dt0 + f.toNat * 4 + 3)), v5, .int .i64 (f), .int .i64 (arg)]]) (cap := []) (show _ = (.func (.func 41) #[] #[] : Value) from e913) (mapL ⟨(show _ = (.agg #[.int .i64 ((t.fields.getD f.toNat default).kind), .int .i64 ((t.fields.getD f.toNat default).policy), .bool ((t.fields.getD f.toNat default).floor), (cellV W (sb dt0) (so dt0 + f.toNat * 4 + 3)), v5, .int .i64 (f), .int .i64 (arg)] : Value) from e914), trivial⟩) Try.call41 (D_doMove  hS915 (⟨hak.1, hak.2.2.1⟩) (hf) (harg) (hde916_0) (⟨(hak.2.2.2.2 hop).1, (hak.2.2.2.2 hop).2.1⟩)) ?_)
        rintro _ w920 ⟨rfl, hS921⟩
        intro vals' hv hv'
        refine ⟨?_, trivial⟩
        show (vals' 11 = (.tuple #[] : Value)) ∧ Sep G W ((CelW v5 47 3 (c.set f.toNat (doCel (t.fields.getD f.toNat default) (celAt c f) 5 arg))) :: (Blk b815 #[.func (.func 40) #[] #[], .func (.func 41) #[] #[]] 56) :: (MapH (α := Rul) m23 ruleL) :: (Blk b2 (t.cells dt0).toArray 31) :: Rs) w920
        exact ⟨hv, hS921⟩
      intro vals w1008 hW1009 hA1010
      obtain ⟨he922, hS1011⟩ : (vals 11 = (.tuple #[] : Value)) ∧ Sep G W ((CelW v5 47 3 (c.set f.toNat (doCel (t.fields.getD f.toNat default) (celAt c f) 5 arg))) :: (Blk b815 #[.func (.func 40) #[] #[], .func (.func 41) #[] #[]] 56) :: (MapH (α := Rul) m23 ruleL) :: (Blk b2 (t.cells dt0).toArray 31) :: Rs) w1008 := hW1009
      refine st_env (kv := [(1, vc), (2, .int .i64 (f)), (3, .int .i64 (op)), (4, .int .i64 (arg)), (5, .pointer (some ⟨b2, 0, none⟩)), (10, (.slice none 0 0)), (11, v5), (18, .int .i64 ((sh9.length : Nat) : Int)), (19, .int .i64 ((k : Nat) : Int)), (20, .bool false), (34, .map (some m23)), (35, .int .i64 (op)), (36, .tuple #[.agg #[.func (.func 40) #[] #[], .func (.func 41) #[] #[]], .bool true]), (33, .tuple #[.agg #[.func (.func 40) #[] #[], .func (.func 41) #[] #[]], .bool true]), (37, .agg #[.func (.func 40) #[] #[], .func (.func 41) #[] #[]]), (38, .bool true), (13, .pointer (some ⟨b815, 0, none⟩)), (14, .bool true), (39, .bool true)]) ⟨rfl, rfl, rfl, rfl, rfl, rfl, rfl, rfl, rfl, rfl, rfl, rfl, rfl, rfl, rfl, rfl, rfl, rfl, rfl, trivial⟩ (fun ρw1008 => ?_)
      refine st_nil ?_
      refine WP_seq ?_
      refine WP_region0 (by kernel_rfl) (fun _ => ?_)
      refine st (ov_move (v := v5) rfl ?_)
      refine st (ov_assign (v := v5) rfl ?_)
      refine st_nil ?_
      refine WP_ret ?_
      refine fin1 Try.results11 (show _ = (v5 : Value) from rfl) ?_
      have hS1012 : Sep G W ((RowE (α := Cel) own 47 v5 (c.set f.toNat (doCel (t.fields.getD f.toNat default) (celAt c f) 5 arg))) :: (Blk b815 #[.func (.func 40) #[] #[], .func (.func 41) #[] #[]] 56) :: (MapH (α := Rul) m23 ruleL) :: (Blk b2 (t.cells dt0).toArray 31) :: Rs) w1008 := CelW.row hS1011
      have hS1013 : Sep G W ((RowE (α := Cel) own 47 v5 (doL t c f op arg)) :: (Blk b815 #[.func (.func 40) #[] #[], .func (.func 41) #[] #[]] 56) :: (MapH (α := Rul) m23 ruleL) :: (Blk b2 (t.cells dt0).toArray 31) :: Rs) w1008 := by subst hop; exact hS1012
      have hS1014 : Sep G W ((RowE (α := Cel) own 47 v5 (doL t c f op arg)) :: Rs) w1008 := hS1013.sel 4 [0] (Nat.le_add_left _ _) rfl rfl
      refine ⟨v5, rfl, hS1014⟩
    · skip
      refine st (ov_lookupNone (α := Rul) (zc := [.nilFunc, .nilFunc]) Try.underlying58 Try.underlying3 Try.zeroValue56 rfl rfl (hS25.map_ (i := 0) rfl) (ruleL_none hop) ?_)
      refine st (ov_move (v := .tuple #[.agg #[.nilFunc, .nilFunc], .bool false]) rfl ?_)
      refine st (ov_extract (vs := [.agg #[.nilFunc, .nilFunc], .bool false]) (i := 0) (v := .agg #[.nilFunc, .nilFunc]) rfl rfl ?_)
      refine st (ov_extract (vs := [.agg #[.nilFunc, .nilFunc], .bool false]) (i := 1) (v := .bool false) rfl rfl ?_)
      refine st (ov_alloc Try.zeroValue56 ?_)
      intro w1017 b1016 hn1015
      have hS1018 : Sep G W ((Blk b1016 #[.nilFunc, .nilFunc] 56) :: (MapH (α := Rul) m23 ruleL) :: (CelW v5 47 3 c) :: (Blk b2 (t.cells dt0).toArray 31) :: Rs) w1017 := hS25.new hn1015
      refine stn (ov_store (v := .agg #[.nilFunc, .nilFunc]) (c' := #[.nilFunc, .nilFunc]) Try.sizeOf56 rfl rfl (hS1018.blk (i := 0) rfl) (all1 ⟨rfl, rfl, trivial⟩) (Nat.le_of_ble_eq_true rfl) rfl ?_)
      intro w1019 hp1020
      have hS1021 : Sep G W ((Blk b1016 #[.nilFunc, .nilFunc] 56) :: (MapH (α := Rul) m23 ruleL) :: (CelW v5 47 3 c) :: (Blk b2 (t.cells dt0).toArray 31) :: Rs) w1019 := hS1018.put (i := 0) rfl hp1020
      refine st (ov_assign (v := .bool false) rfl ?_)
      refine st_nil ?_
      refine WP_seq ?_
      refine WP_region0 (by kernel_rfl) (fun _ => ?_)
      refine st (ov_move (v := .bool false) rfl ?_)
      refine st_nil ?_
      refine WP_cond_f rfl ?_
      refine WP_skip ?_
      refine WP_seq ?_
      refine WP_region0 (by kernel_rfl) (fun _ => ?_)
      refine st (ov_move (v := v5) rfl ?_)
      refine st (ov_assign (v := v5) rfl ?_)
      refine st_nil ?_
      refine WP_ret ?_
      refine fin1 Try.results11 (show _ = (v5 : Value) from rfl) ?_
      have hS1022 : Sep G W ((CelW v5 47 3 c) :: (Blk b1016 #[.nilFunc, .nilFunc] 56) :: (MapH (α := Rul) m23 ruleL) :: (Blk b2 (t.cells dt0).toArray 31) :: Rs) w1019 := hS1021.sel 4 [2, 0, 1, 3] (Nat.le_add_left _ _) rfl rfl
      have hS1023 : Sep G W ((RowE (α := Cel) own 47 v5 c) :: (Blk b1016 #[.nilFunc, .nilFunc] 56) :: (MapH (α := Rul) m23 ruleL) :: (Blk b2 (t.cells dt0).toArray 31) :: Rs) w1019 := CelW.row hS1022
      have hS1024 : Sep G W ((RowE (α := Cel) own 47 v5 (doL t c f op arg)) :: (Blk b1016 #[.nilFunc, .nilFunc] 56) :: (MapH (α := Rul) m23 ruleL) :: (Blk b2 (t.cells dt0).toArray 31) :: Rs) w1019 := by rw [doL_none (by omega) hop]; exact hS1023
      have hS1025 : Sep G W ((RowE (α := Cel) own 47 v5 (doL t c f op arg)) :: Rs) w1019 := hS1024.sel 4 [0] (Nat.le_add_left _ _) rfl rfl
      refine ⟨v5, rfl, hS1025⟩
  · skip
    have hc21 := of_decide_eq_true hc21
    refine WP_cond_t rfl ?_
    refine WP_skip ?_
    refine WP_seq ?_
    refine WP_block ?_
    refine WP_seq ?_
    refine WP_region0 (by kernel_rfl) (fun _ => ?_)
    refine st (ov_move (v := .int .i64 ((k : Nat) : Int)) rfl ?_)
    refine st (ov_assign (v := .int .i64 ((k : Nat) : Int)) rfl ?_)
    refine st_nil ?_
    refine WP_region0 (by kernel_rfl) (fun _ => ?_)
    refine st (ov_move (v := v5) rfl ?_)
    refine st (ov_move (v := .int .i64 ((k : Nat) : Int)) rfl ?_)
    refine st (ov_move (v := vc) rfl ?_)
    refine st (ov_move (v := .int .i64 ((k : Nat) : Int)) rfl ?_)
    have hi1026 : k < c.length := (by have h1 := hak.1; have h2 := hak.2.1; have h3 := hak.2.2.1; omega)
    refine st (ov_indexAddrN (k := 2) (i := k) Try.underlying26 Try.sizeOf47 rfl hc.sl rfl hi1026 ?_)
    refine st (fd47_1 rfl ?_)
    have hi1028 : k < c.length := (by have h1 := hak.1; have h2 := hak.2.1; have h3 := hak.2.2.1; omega)
    obtain ⟨hce1027, hde1027_0, hoke1027⟩ := hc.cel hi1028
    rw [← getD_at default hi1028] at hce1027 hde1027_0 hoke1027
    have hsm1029 : ((c.getD k default).set).length * 8 ≤ 140737488355328 := hde1027_0.small
    have hcw1030 := hS19.cells hce1027 (hc.foot (ne_of_lt hi1028))
    refine st (ov_load1 (v := (cellV W (sb vc) (so vc + k * 2 + 1))) Try.isAgg44 rfl (hcw1030.get (j := 1) rfl) ?_)
    refine st (ov_call (f := 23) (vals := [(cellV W (sb vc) (so vc + k * 2 + 1))]) (cap := []) (show _ = (.func (.func 23) #[] #[] : Value) from rfl) rfl Try.call23 (D_cloneInt (l := (c.getD k default).set) (vl := (cellV W (sb vc) (so vc + k * 2 + 1))) hde1027_0 hS19) ?_)
    rintro v1031 w1032 ⟨_, rfl, hS1033⟩
    have hr1034 := hS1033.row (i := 0) rfl
    have hr1034s : ((c.getD k default).set).length * 8 ≤ 140737488355328 := hr1034.2
    have hi1035 : k < shk.length := (by have h1 := hak.1; have h2 := hak.2.1; have h3 := hak.2.2.1; omega)
    refine st (ov_indexAddrN (k := 2) (i := k) Try.underlying26 Try.sizeOf47 rfl hr20.1 rfl hi1035 ?_)
    refine st (fd47_1 rfl ?_)
    have hS1037 : Sep G W ((RowE (α := CelS) own 47 v5 shk) :: (RowE (α := Int) own 3 v1031 ((c.getD k default).set)) :: (Star (SetRows 3 (shk.take k) (c.take k))) :: (Blk b2 (t.cells dt0).toArray 31) :: Rs) w1032 := hS1033.sel 4 [1, 0, 2, 3] (Nat.le_add_left _ _) rfl rfl
    have hS1038 : Sep G W ((RowE (α := CelS) own 47 v5 shk) :: Emp :: (RowE (α := Int) own 3 v1031 ((c.getD k default).set)) :: (Star (SetRows 3 (shk.take k) (c.take k))) :: (Blk b2 (t.cells dt0).toArray 31) :: Rs) w1032 := hS1037.emp1
    refine stn (ov_storeS (α := CelS) (j := k) (o := 1) (u := v1031) (us := [v1031]) (x1 := (⟨(shk.getD k default).n, v1031⟩ : CelS)) hS1038 Try.sizeOf44 (by first | omega | (simp only [lens]; omega)) rfl rfl (congrArg Array.toList (oneCell_cells hr1034.1.one)) (Nat.le_of_ble_eq_true rfl) (all1 ⟨hr1034.1.one, trivial⟩) (fun _ _ _ hel _ => (by rw [← getD_at default (by omega)] at hel; obtain ⟨rfl, hok⟩ := hel; exact ⟨rfl, ⟨hok.n, hr1034.1.one⟩⟩)) ?_)
    intro w1036 hS1039
    have hr1040 := hS1039.row (i := 0) rfl
    have hr1040s : (shk.set k (⟨(shk.getD k default).n, v1031⟩ : CelS)).length * 32 ≤ 140737488355328 := hr1040.2
    refine st_nil ?_
    refine WP_region0 (by kernel_rfl) (fun _ => ?_)
    have hr1041 : InR ((k + 1 : Nat) : Int) := by first | omega | (simp only [lens]; omega)
    refine st (ov_add (r := ((k + 1 : Nat) : Int)) (k := .i64) (a := ((k : Nat) : Int)) (b := 1) rfl rfl (by rw [show (((k : Nat) : Int) + 1 : Int) = ((k + 1 : Nat) : Int) by first | omega | (simp only [lens]; omega)]; exact wrap_in hr1041) ?_)
    refine st (ov_move (v := .int .i64 ((k + 1 : Nat) : Int)) rfl ?_)
    refine st_nil ?_
    have hS1042 : Sep G W ((RowE (α := Int) own 3 v1031 ((c.getD k default).set)) :: (Star (SetRows 3 (shk.take k) (c.take k))) :: (RowE (α := CelS) own 47 v5 (shk.set k (⟨(shk.getD k default).n, v1031⟩ : CelS))) :: (Blk b2 (t.cells dt0).toArray 31) :: Rs) w1036 := hS1039.sel 4 [1, 2, 0, 3] (Nat.le_add_left _ _) rfl rfl
    have hS1043 : Sep G W ((Star (SetRows 3 (shk.take k) (c.take k) ++ [(RowE (α := Int) own 3 v1031 ((c.getD k default).set))])) :: (RowE (α := CelS) own 47 v5 (shk.set k (⟨(shk.getD k default).n, v1031⟩ : CelS))) :: (Blk b2 (t.cells dt0).toArray 31) :: Rs) w1036 := hS1042.snocStar
    rw [← SetRows.step (Ti := 3) (⟨(shk.getD k default).n, v1031⟩ : CelS) hshl (by omega)] at hS1043
    have hS1044 : Sep G W ((RowE (α := CelS) own 47 v5 (shk.set k (⟨(shk.getD k default).n, v1031⟩ : CelS))) :: (Star (SetRows 3 ((shk.set k ⟨(shk.getD k default).n, v1031⟩).take (k + 1)) (c.take (k + 1)))) :: (Blk b2 (t.cells dt0).toArray 31) :: Rs) w1036 := hS1043.sel 3 [1, 0, 2] (Nat.le_add_left _ _) rfl rfl
    exact ⟨_, by omega, k + 1, shk.set k (⟨(shk.getD k default).n, v1031⟩ : CelS), _, rfl, setAll_self ⟨rfl, rfl, rfl, rfl, rfl, rfl, rfl, rfl, rfl, trivial⟩, by omega, by rw [List.length_set]; exact hshl, (hshn_set hshl hshn (by omega)), hS1044⟩

end Go.Proofs.Ytlblilbmpdejgaa
