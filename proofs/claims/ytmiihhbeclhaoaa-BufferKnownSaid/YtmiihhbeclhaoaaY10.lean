/- Texts of this claim, part 10. -/
import Derived.Test.YtmiihhbeclhaoaaY9
set_option linter.unusedSimpArgs false
set_option linter.unusedVariables false
set_option linter.unusedSectionVars false
section
/- Steps of the proofs of this seat: part R1. -/
set_option maxRecDepth 8000
set_option maxHeartbeats 4000000
namespace Go.Proofs.Ytmiihhbeclhaoaa
open Go.Proofs Go.RowKit

def RefS (b n : Nat) (L : List Ev) : HP := Ex1 fun vl => Star [Blk b #[.int .i64 ((n : Nat) : Int), vl] 78, RowE (α := Ev) own 36 vl L]
section
variable {G : Nat → Prop} {W w : World} {As : List HP} {b n : Nat} {L : List Ev}
theorem RefS.open (h : Sep G W (RefS b n L :: As) w) : ∃ vl, Sep G W (Blk b #[.int .i64 ((n : Nat) : Int), vl] 78 :: RowE (α := Ev) own 36 vl L :: As) w := by
  obtain ⟨vl, h⟩ := h.openEx
  exact ⟨vl, h.openStar⟩
theorem RefS.close {vl : Value} (h : Sep G W (Blk b #[.int .i64 ((n : Nat) : Int), vl] 78 :: RowE (α := Ev) own 36 vl L :: As) w) : Sep G W (RefS b n L :: As) w := Sep.closeEx (A := fun vl => Star [Blk b #[.int .i64 ((n : Nat) : Int), vl] 78, RowE (α := Ev) own 36 vl L]) vl (Sep.closeStar (Bs := [Blk b #[.int .i64 ((n : Nat) : Int), vl] 78, RowE (α := Ev) own 36 vl L]) h)
theorem RefS.sh (h : (RefS b n L).p W G) : ∃ vl, (Blk b #[.int .i64 ((n : Nat) : Int), vl] 78).p W G ∧ RdS W G vl L := by
  obtain ⟨vl, h⟩ := h
  exact ⟨vl, Star.at_ h (i := 0) rfl, RowE.rd (T := 36) (Star.at_ h (i := 1) rfl)⟩
end
theorem QH {G : Nat → Prop} {W w : World} {Rs : List HP} {n : Nat} (hn : n ≤ 1000) (hS0 : Sep G W Rs w) : Ret Try.prog 21 [.int .i64 ((n : Nat) : Int)] w (fun r w' => ∃ (b : Nat), r = (.pointer (some ⟨b, 0, none⟩) : Value) ∧ Sep G W ((RefS b n ([] : List Ev)) :: Rs) w') := by
 refine zp (args := [.int .i64 ((n : Nat) : Int)]) Try.func21 rfl rfl ?_
 refine zc ?_
 refine za (by kernel_rfl) (fun _ => ?_)
 refine st (zd (v := .pointer none) rfl ?_)
 refine ze ?_
 refine zc ?_
 refine za (by kernel_rfl) (fun _ => ?_)
 refine st (zb (v := .int .i64 ((n : Nat) : Int)) rfl ?_)
 refine st (yP (parts' := [(0, .int .i64 ((n : Nat) : Int))]) (v := .agg #[.int .i64 ((n : Nat) : Int), (.slice none 0 0)]) rfl (by simp [Instr.build, Instr.fill, go_sem]) ?_)
 refine st (yg (v := .agg #[.int .i64 ((n : Nat) : Int), (.slice none 0 0)]) rfl ?_)
 intro w3 b2 hn1
 have hS4 := hS0.new hn1
 refine st (zd (v := .pointer (some ⟨b2, 0, none⟩)) rfl ?_)
 refine ze ?_
 refine zw ?_
 refine zL Try.results21 (show _ = (.pointer (some ⟨b2, 0, none⟩) : Value) from rfl) ?_
 have hS5 : Sep G W ((RowE (α := Ev) own 36 (.slice none 0 0) ([] : List Ev)) :: (Blk b2 #[.int .i64 ((n : Nat) : Int), (.slice none 0 0)] 78) :: Rs) w3 := hS4.rowNil own 36
 have hS6 := hS5.mv1
 have hS7 : Sep G W ((RefS b2 n ([] : List Ev)) :: Rs) w3 := RefS.close (n := n) (L := ([] : List Ev)) hS6
 refine ⟨b2, rfl, hS7⟩

section
variable {L : List Ev} {o q : Int} {k : Nat}
theorem KI (hm : ∀ i, i < k → ¬ ((L.getD i default).origin = o ∧ (L.getD i default).seq = q)) (hk : k < L.length) (h : (L.getD k default).origin = o ∧ (L.getD k default).seq = q) : zq L (o, q) = some (L.getD k default) := by
  unfold zq
  rw [List.find?_eq_some_iff_getElem, zm _ hk]
  rw [zm _ hk] at h
  refine ⟨by simpa using h, k, hk, rfl, fun i hi => ?_⟩
  have := hm i hi
  rw [zm _ (by omega)] at this
  rw [decide_eq_false this]; rfl
theorem Qg (hm : ∀ i, i < L.length → ¬ ((L.getD i default).origin = o ∧ (L.getD i default).seq = q)) : zq L (o, q) = none := by
  unfold zq
  rw [List.find?_eq_none]
  intro x hx
  obtain ⟨i, hi, rfl⟩ := List.getElem_of_mem hx
  have := hm i hi
  rw [zm _ hi] at this
  rw [decide_eq_false this]; decide
end
theorem yI {d : Option Tmp} {ty : TypeId} {pos : String} {af : Array Edge} {g : Option (Nat × Bool)} {σ : Env} {w : World} {K : Value → World → Prop} {x : Operand} {b o : Nat} (hx : ev σ x = .pointer (some ⟨b, o, none⟩)) (h : K (.pointer (some ⟨b, o + 1, none⟩)) w) : opV Try.prog ⟨d, .fieldAddr 78 x 1, ty, pos, af, g⟩ σ w K := zR Try.underlying78 rfl rfl (fun w => ⟨0, Try.sizeOf22 w⟩) hx h
theorem XW {G : Nat → Prop} {W w : World} {Rs : List HP} {b : Nat} {n : Nat} {L : List Ev} (hb : (RefS b n L).p W G) {o q : Int} (ho : InR o) (hq : InR q) (hS0 : Sep G W Rs w) : Ret Try.prog 53 [.pointer (some ⟨b, 0, none⟩), .agg #[.int .i64 (o), .int .i64 (q)]] w (fun r w' => ∃ (v : Value), r = (.tuple #[.agg (((zq L (o, q)).getD default).cells v).toArray, .bool (zq L (o, q)).isSome] : Value) ∧ (((zq L (o, q)).getD default).Ok) ∧ Sep G W ((RowE (α := Int) own 3 v (((zq L (o, q)).getD default).deps)) :: Rs) w') := by
 refine zp (args := [.pointer (some ⟨b, 0, none⟩), .agg #[.int .i64 (o), .int .i64 (q)]]) Try.func53 rfl rfl ?_
 obtain ⟨vl1, hb2, hl3⟩ := RefS.sh hb
 have hsm4 : L.length * 96 ≤ 140737488355328 := hl3.small
 refine zc ?_
 refine za (by kernel_rfl) (fun _ => ?_)
 refine st (yg (v := .agg #[.int .i64 (o), .int .i64 (q)]) rfl ?_)
 intro w7 b6 hn5
 have hS8 := hS0.new hn5
 refine st (ye Try.zeroValue36 ?_)
 intro w11 b10 hn9
 have hS12 := hS8.new hn9
 refine st (zd (v := .bool false) rfl ?_)
 refine ze ?_
 refine zc ?_
 refine zc ?_
 refine za (by kernel_rfl) (fun _ => ?_)
 refine st (zd (v := .int .i64 (0)) rfl ?_)
 refine ze ?_
 refine zt ?_
 refine zP (fun mq σ wq => ∃ (k : Nat) (ρ : Env), mq = L.length - k ∧ σ = zQ ρ [(3, .pointer (some ⟨b6, 0, none⟩)), (4, .pointer (some ⟨b10, 0, none⟩)), (0, .pointer (some ⟨b, 0, none⟩)), (6, .int .i64 ((k : Nat) : Int))] ∧ (k ≤ L.length) ∧ (∀ i, i < k → ¬ ((L.getD i default).origin = o ∧ (L.getD i default).seq = q)) ∧ Sep G W ((Blk b10 #[.int .i64 (0), .int .i64 (0), .int .i64 (0), (.slice none 0 0), .int .i64 (0), .int .i64 (0), .int .i64 (0), .int .i64 (0), .int .i64 (0), .int .i64 (0)] 36) :: (Blk b6 #[.int .i64 (o), .int .i64 (q)] 33) :: Rs) wq) ⟨0, _, rfl, zh ⟨rfl, rfl, rfl, rfl, trivial⟩, Nat.zero_le _, (fun i h => absurd h (Nat.not_lt_zero i)), hS12⟩ ?_
 rintro m14 σ15 w13 ⟨k, ρl1, rfl, rfl, hkk, hm, hS16⟩
 refine zc ?_
 refine zc ?_
 refine za (by kernel_rfl) (fun _ => ?_)
 refine st (zb (v := .int .i64 ((k : Nat) : Int)) rfl ?_)
 refine st (zb (v := .pointer (some ⟨b, 0, none⟩)) rfl ?_)
 refine st (zn (b := b) (o := 0) rfl ?_)
 refine st (yI rfl ?_)
 refine st (zg (v := vl1) Try.isAgg22 rfl (zf (hS16.gblk hb2) rfl) ?_)
 refine st (zJ (n := L.length) Try.underlying22 rfl hl3.sl ?_)
 refine st (zH (k := .i64) (a := ((k : Nat) : Int)) (b := ((L.length : Nat) : Int)) rfl rfl ?_)
 refine ze ?_
 cases hc17 : decide (((k : Nat) : Int) < ((L.length : Nat) : Int))
 ·skip
  have hc17 := of_decide_eq_false hc17
  refine zi rfl ?_
  refine zO ?_
  refine zF ?_
  refine zc ?_
  refine za (by kernel_rfl) (fun _ => ?_)
  have ok18 : Ev.Ok (⟨0, 0, 0, [], 0, 0, 0, 0, 0, 0⟩ : Ev) := ⟨(show InR (0) from (by decide)), (show InR (0) from (by decide)), (show InR (0) from (by decide)), (show InR (0) from (by decide)), (show InR (0) from (by decide)), (show InR (0) from (by decide)), (show InR (0) from (by decide)), (show InR (0) from (by decide)), (show InR (0) from (by decide))⟩
  refine st (yP (parts' := []) (v := .agg ((⟨0, 0, 0, [], 0, 0, 0, 0, 0, 0⟩ : Ev).cells (.slice none 0 0)).toArray) rfl (by simp [Instr.build, Instr.fill, Ev.cells, go_sem, Ev.cells]) ?_)
  refine stn (zY (v := .agg ((⟨0, 0, 0, [], 0, 0, 0, 0, 0, 0⟩ : Ev).cells (.slice none 0 0)).toArray) (c' := ((⟨0, 0, 0, [], 0, 0, 0, 0, 0, 0⟩ : Ev).cells (.slice none 0 0)).toArray) Try.sizeOf36 rfl rfl (hS16.blk (i := 0) rfl) (yU ⟨rfl, rfl, rfl, rfl, rfl, rfl, rfl, rfl, rfl, rfl, trivial⟩) (Nat.le_of_ble_eq_true rfl) rfl ?_)
  intro w19 hp20
  have hS21 := hS16.pt0 hp20
  refine st (zd (v := .bool false) rfl ?_)
  refine ze ?_
  refine zw ?_
  refine QM (b := b10) Try.results53 Try.isAgg36 Try.sizeOf36 rfl rfl (CellsAt.all (hS21.blk (i := 0) rfl)) (show _ = (.bool false : Value) from rfl) ?_
  have hS22 : Sep G W ((RowE (α := Int) own 3 (.slice none 0 0) ([] : List Int)) :: (Blk b10 ((⟨0, 0, 0, [], 0, 0, 0, 0, 0, 0⟩ : Ev).cells (.slice none 0 0)).toArray 36) :: (Blk b6 #[.int .i64 (o), .int .i64 (q)] 33) :: Rs) w19 := hS21.rowNil own 3
  have hS23 : Sep G W ((RowE (α := Int) own 3 (.slice none 0 0) ([] : List Int)) :: Rs) w19 := hS22.sel 3 [0] (Nat.le_add_left _ _) rfl rfl
  rw [Qg (fun i hi => hm i (by omega))]
  refine ⟨(.slice none 0 0), ?_, ?_, hS23⟩
  · rfl
  · exact ok18
 ·skip
  have hc17 := of_decide_eq_true hc17
  refine zk rfl ?_
  refine zo ?_
  refine zc ?_
  refine zt ?_
  refine zc ?_
  refine zM (WF [fun vals wq => Sep G W ((Blk b10 #[.int .i64 (0), .int .i64 (0), .int .i64 (0), (.slice none 0 0), .int .i64 (0), .int .i64 (0), .int .i64 (0), .int .i64 (0), .int .i64 (0), .int .i64 (0)] 36) :: (Blk b6 #[.int .i64 (o), .int .i64 (q)] 33) :: Rs) wq]) (AF [Vl 0 (.pointer (some ⟨b, 0, none⟩)), Vl 1 (.pointer (some ⟨b, 0, none⟩)), Vl 2 (.pointer (some ⟨b, 1, none⟩)), Vl 3 (vl1), Vl 4 (.int .i64 ((k : Nat) : Int)), Vl 5 (.pointer (some ⟨sb vl1, so vl1 + k * 10, none⟩)), Vl 6 (.pointer (some ⟨sb vl1, so vl1 + k * 10, none⟩)), Vl 7 (.agg #[.int .i64 ((L.getD k default).origin), .int .i64 ((L.getD k default).seq)]), Vl 8 (.agg #[.int .i64 (o), .int .i64 (q)]), Vl 9 (.bool (decide ((L.getD k default).origin = o ∧ (L.getD k default).seq = q)))]) [[], [0], [0, 1], [0, 1, 2], [], [0, 1, 2, 3, 4], [0, 1, 2, 3, 4, 5], [0, 1, 2, 3, 4, 5, 6], [], [0, 1, 2, 3, 4, 5, 6, 7, 8]] [] [(0, 0), (0, 0), (0, 0), (0, 0), (0, 0), (0, 0), (0, 0), (0, 0), (0, 0), (0, 0)] (by kernel_rfl) (by kernel_rfl) (by kernel_rfl) rfl (by kernel_rfl) (by kernel_rfl) (fun _ h1 h2 h3 h4 _ => hS16.same h1 h2 h3 h4) ?_ (yc ⟨dA, dA, dA, dA, dA, dA, dA, dA, dA, dA, trivial⟩) ⟨?_, ?_, ?_, ?_, ?_, ?_, ?_, ?_, ?_, ?_, trivial⟩ ?_
  ·intro k vals vals' w hv h
   match k, h with
   | 0, h => exact h
   | _ + 1, _ => trivial
  ·intro k103 vals w104 h107 h108 hW106 hA105
   refine obl rfl ?_
   exact zb (v := .pointer (some ⟨b, 0, none⟩)) rfl (fun vals' hv _ => ⟨rfl, hv⟩)
  ·intro k109 vals w110 h113 h114 hW112 hA111
   have e115 := hA111 0 (by decide)
   refine obl rfl ?_
   exact zn (b := b) (o := 0) e115 (fun vals' hv _ => ⟨rfl, hv⟩)
  ·intro k116 vals w117 h120 h121 hW119 hA118
   have e122 := hA118 1 (by decide)
   refine obl rfl ?_
   exact yI e122 (fun vals' hv _ => ⟨rfl, hv⟩)
  ·intro k123 vals w124 h127 h128 hW126 hA125
   obtain rfl : k123 = 0 := Nat.le_antisymm h128 h127
   have hS129 : Sep _ _ _ _ := hW126
   have e130 := hA125 2 (by decide)
   refine obl rfl ?_
   exact zg (v := vl1) Try.isAgg22 e130 (zf (hS129.gblk hb2) rfl) (fun vals' hv _ => ⟨rfl, hv⟩)
  ·intro k131 vals w132 h135 h136 hW134 hA133
   refine obl rfl ?_
   exact zb (v := .int .i64 ((k : Nat) : Int)) rfl (fun vals' hv _ => ⟨rfl, hv⟩)
  ·intro k137 vals w138 h141 h142 hW140 hA139
   obtain rfl : k137 = 0 := Nat.le_antisymm h142 h141
   have hS143 : Sep _ _ _ _ := hW140
   have e144 := hA139 3 (by decide)
   have e145 := hA139 4 (by decide)
   refine obl rfl ?_
   have hi146 : k < L.length := (by first | omega | (simp only [lens]; omega))
   exact zl (k := 10) (i := k) Try.underlying22 Try.sizeOf36 e144 hl3.sl e145 hi146 (fun vals' hv _ => ⟨rfl, hv⟩)
  ·intro k147 vals w148 h151 h152 hW150 hA149
   have e153 := hA149 5 (by decide)
   refine obl rfl ?_
   exact zS e153 (fun vals' hv _ => ⟨rfl, hv⟩)
  ·intro k154 vals w155 h158 h159 hW157 hA156
   obtain rfl : k154 = 0 := Nat.le_antisymm h159 h158
   have hS160 : Sep _ _ _ _ := hW157
   have e161 := hA156 6 (by decide)
   refine obl rfl ?_
   have hi163 : k < L.length := (by first | omega | (simp only [lens]; omega))
   obtain ⟨hce162, hde162_0, hoke162⟩ := hl3.ev hi163
   rw [← zm default hi163] at hce162 hde162_0 hoke162
   have hsm164 : ((L.getD k default).deps).length * 8 ≤ 140737488355328 := hde162_0.small
   have hcw165 := hS160.cells hce162 (hl3.foot (ne_of_lt hi163))
   exact zr (k := 2) (cs := [.int .i64 ((L.getD k default).origin), .int .i64 ((L.getD k default).seq)]) Try.isAgg33 Try.sizeOf33 rfl e161 (CellsAt.sub hcw165 0 (cs2 := [.int .i64 ((L.getD k default).origin), .int .i64 ((L.getD k default).seq)]) rfl) (fun vals' hv _ => ⟨rfl, hv⟩)
  ·intro k166 vals w167 h170 h171 hW169 hA168
   obtain rfl : k166 = 0 := Nat.le_antisymm h171 h170
   have hS172 : Sep _ _ _ _ := hW169
   refine obl rfl ?_
   exact zr (k := 2) Try.isAgg33 Try.sizeOf33 rfl rfl (CellsAt.all (hS172.blk (i := 1) rfl)) (fun vals' hv _ => ⟨rfl, hv⟩)
  ·intro k173 vals w174 h177 h178 hW176 hA175
   obtain rfl : k173 = 0 := Nat.le_antisymm h178 h177
   have hS179 : Sep _ _ _ _ := hW176
   have e180 := hA175 7 (by decide)
   have e181 := hA175 8 (by decide)
   refine obl rfl ?_
   exact ZU (e := decide ((L.getD k default).origin = o ∧ (L.getD k default).seq = q)) (xs := #[.int .i64 ((L.getD k default).origin), .int .i64 ((L.getD k default).seq)]) (ys := #[.int .i64 (o), .int .i64 (q)]) Wy e180 e181 (fun vals' hv _ => ⟨rfl, hv⟩)
  intro vals w182 hW183 hA184
  have hS185 : Sep _ _ _ _ := hW183
  have e186 := hA184 9 (by decide)
  refine yb (kv := [(3, .pointer (some ⟨b6, 0, none⟩)), (4, .pointer (some ⟨b10, 0, none⟩)), (0, .pointer (some ⟨b, 0, none⟩)), (6, .int .i64 ((k : Nat) : Int)), (7, .int .i64 ((k : Nat) : Int)), (8, .pointer (some ⟨b, 0, none⟩)), (9, .pointer (some ⟨b, 0, none⟩)), (10, .pointer (some ⟨b, 1, none⟩)), (11, vl1), (12, .int .i64 ((L.length : Nat) : Int)), (13, .bool true), (25, .bool (decide ((L.getD k default).origin = o ∧ (L.getD k default).seq = q)))]) ⟨rfl, rfl, rfl, rfl, rfl, rfl, rfl, rfl, rfl, rfl, rfl, (by exact e186), trivial⟩ (fun ρw182 => ?_)
  refine ze ?_
  cases hc187 : decide ((L.getD k default).origin = o ∧ (L.getD k default).seq = q)
  ·skip
   have hc187 := of_decide_eq_false hc187
   refine zi rfl ?_
   refine zo ?_
   refine za (by kernel_rfl) (fun _ => ?_)
   refine st (zb (v := .int .i64 ((k : Nat) : Int)) rfl ?_)
   have hr188 : InR ((k + 1 : Nat) : Int) := by first | omega | (simp only [lens]; omega)
   refine st (zB (r := ((k + 1 : Nat) : Int)) (k := .i64) (a := ((k : Nat) : Int)) (b := 1) rfl rfl (by rw [show (((k : Nat) : Int) + 1 : Int) = ((k + 1 : Nat) : Int) by first | omega | (simp only [lens]; omega)]; exact zy hr188) ?_)
   refine st (zd (v := .int .i64 ((k + 1 : Nat) : Int)) rfl ?_)
   refine ze ?_
   exact ⟨_, by omega, k + 1, _, rfl, zh ⟨rfl, rfl, rfl, rfl, trivial⟩, by omega, (yE hm (by simpa using hc187)), hS185⟩
  ·skip
   have hc187 := of_decide_eq_true hc187
   refine zk rfl ?_
   refine zc ?_
   refine za (by kernel_rfl) (fun _ => ?_)
   refine st (zb (v := .pointer (some ⟨b, 0, none⟩)) rfl ?_)
   refine st (zn (b := b) (o := 0) rfl ?_)
   refine st (yI rfl ?_)
   refine st (zg (v := vl1) Try.isAgg22 rfl (zf (hS185.gblk hb2) rfl) ?_)
   refine st (zb (v := .int .i64 ((k : Nat) : Int)) rfl ?_)
   have hi189 : k < L.length := (by first | omega | (simp only [lens]; omega))
   refine st (zl (k := 10) (i := k) Try.underlying22 Try.sizeOf36 rfl hl3.sl rfl hi189 ?_)
   have hi191 : k < L.length := (by first | omega | (simp only [lens]; omega))
   obtain ⟨hce190, hde190_0, hoke190⟩ := hl3.ev hi191
   rw [← zm default hi191] at hce190 hde190_0 hoke190
   have hsm192 : ((L.getD k default).deps).length * 8 ≤ 140737488355328 := hde190_0.small
   have hcw193 := hS185.cells hce190 (hl3.foot (ne_of_lt hi191))
   refine st (zr (k := 10) Try.isAgg36 Try.sizeOf36 rfl rfl hcw193 ?_)
   refine st (zj (f := 23) (vals := [.agg ((L.getD k default).cells (zT W (sb vl1) (so vl1 + k * 10 + 3))).toArray]) (cap := []) rfl rfl Try.call23 (yJ (e := (L.getD k default)) hde190_0 hoke190 hS185) ?_)
   rintro _ w195 ⟨v194, rfl, hS196⟩
   have hr197 := hS196.row (i := 0) rfl
   have hr197s : _ * 8 ≤ _ := hr197.2
   refine stn (zY (v := .agg ((L.getD k default).cells v194).toArray) (c' := ((L.getD k default).cells v194).toArray) Try.sizeOf36 rfl rfl (hS196.blk (i := 1) rfl) (yU ⟨rfl, rfl, rfl, hr197.1.one, rfl, rfl, rfl, rfl, rfl, rfl, trivial⟩) (Nat.le_of_ble_eq_true rfl) rfl ?_)
   intro w198 hp199
   have hS200 := hS196.pt1 hp199
   refine st (zd (v := .bool true) rfl ?_)
   refine ze ?_
   refine zw ?_
   refine QM (b := b10) Try.results53 Try.isAgg36 Try.sizeOf36 rfl rfl (CellsAt.all (hS200.blk (i := 1) rfl)) (show _ = (.bool true : Value) from rfl) ?_
   have hS201 : Sep G W ((RowE (α := Int) own 3 v194 ((L.getD k default).deps)) :: Rs) w198 := hS200.sel 3 [0] (Nat.le_add_left _ _) rfl rfl
   rw [KI hm (by omega) (by simpa using hc187)]
   refine ⟨v194, ?_, ?_, hS201⟩
   · rfl
   · exact hoke190

end Go.Proofs.Ytmiihhbeclhaoaa
end

section
/- Steps of the proofs of this seat: part R2. -/
set_option maxRecDepth 8000
set_option maxHeartbeats 4000000
namespace Go.Proofs.Ytmiihhbeclhaoaa
open Go.Proofs Go.RowKit

theorem Zc {d : Option Tmp} {ty : TypeId} {pos : String} {af : Array Edge} {g : Option (Nat × Bool)} {σ : Env} {w : World} {K : Value → World → Prop} {x : Operand} {b o : Nat} (hx : ev σ x = .pointer (some ⟨b, o, none⟩)) (h : K (.pointer (some ⟨b, o + 0, none⟩)) w) : opV Try.prog ⟨d, .fieldAddr 78 x 0, ty, pos, af, g⟩ σ w K := zR Try.underlying78 rfl rfl (fun w => ⟨0, Try.sizeOf3 w⟩) hx h
theorem Kl {G : Nat → Prop} {W w : World} {Rs : List HP} {b : Nat} {n : Nat} {L : List Ev} (hb : (RefS b n L).p W G) (hS0 : Sep G W Rs w) (hG : Good n L) (hn : n ≤ 1000) : Ret Try.prog 54 [.pointer (some ⟨b, 0, none⟩)] w (fun r w' => ∃ (v : Value), r = (v : Value) ∧ Sep G W ((RowE (α := Int) own 3 v (zz n L)) :: Rs) w') := by
 refine zp (args := [.pointer (some ⟨b, 0, none⟩)]) Try.func54 rfl rfl ?_
 obtain ⟨vl1, hb2, hl3⟩ := RefS.sh hb
 have hsm4 : L.length * 96 ≤ 140737488355328 := hl3.small
 refine zc ?_
 refine za (by kernel_rfl) (fun _ => ?_)
 refine st (zd (v := (.slice none 0 0)) rfl ?_)
 refine ze ?_
 refine zc ?_
 refine za (by kernel_rfl) (fun _ => ?_)
 refine st (zb (v := .pointer (some ⟨b, 0, none⟩)) rfl ?_)
 refine st (zn (b := b) (o := 0) rfl ?_)
 refine st (Zc rfl ?_)
 refine st (zg (v := .int .i64 ((n : Nat) : Int)) Try.isAgg3 rfl (zf (hS0.gblk hb2) rfl) ?_)
 refine st (ZN (α := Int) (T := 3) (bytes := 8) (n := n) (x1 := (0 : Int)) Try.underlying34 ⟨_, _, rfl, rfl, rfl, rfl, rfl, fun _ _ => ⟨rfl, by decide⟩⟩ rfl rfl rfl (by show n * 8 ≤ 140737488355328; omega) ?_)
 intro w10 b5 hx6 he7 hl8 ho9
 have hS11 : Sep G W ((RowE (α := Int) own 3 (.slice (some ⟨b5, 0, none⟩) n n) (List.replicate n (0 : Int))) :: Rs) w10 := hS0.made hx6 ho9
 have hr12 := hS11.row (i := 0) rfl
 have hr12s : _ * 8 ≤ _ := hr12.2
 refine st (zd (v := (.slice (some ⟨b5, 0, none⟩) n n)) rfl ?_)
 refine ze ?_
 refine zc ?_
 refine zc ?_
 rw [WM] at hS11
 have hS13 : Sep G W ((RowE (α := Int) own 3 (.slice (some ⟨b5, 0, none⟩) n n) (zz n [])) :: Rs) w10 := hS11
 refine za (by kernel_rfl) (fun _ => ?_)
 refine st (zd (v := .int .i64 (0)) rfl ?_)
 refine ze ?_
 refine zt ?_
 refine zP (fun mq σ wq => ∃ (k : Nat) (vo : Value) (ρ : Env), mq = L.length - k ∧ σ = zQ ρ [(0, .pointer (some ⟨b, 0, none⟩)), (4, .int .i64 ((k : Nat) : Int)), (3, vo)] ∧ (k ≤ L.length) ∧ Sep G W ((RowE (α := Int) own 3 vo (zz n (L.take k))) :: Rs) wq) ⟨0, (.slice (some ⟨b5, 0, none⟩) n n), _, rfl, zh ⟨rfl, rfl, rfl, trivial⟩, Nat.zero_le _, hS13⟩ ?_
 rintro m15 σ16 w14 ⟨k, vo, ρl1, rfl, rfl, hkk, hS17⟩
 have hr18 := hS17.row (i := 0) rfl
 have hr18s : _ * 8 ≤ _ := hr18.2
 refine zc ?_
 refine zc ?_
 refine za (by kernel_rfl) (fun _ => ?_)
 refine st (zb (v := .int .i64 ((k : Nat) : Int)) rfl ?_)
 refine st (zb (v := .pointer (some ⟨b, 0, none⟩)) rfl ?_)
 refine st (zn (b := b) (o := 0) rfl ?_)
 refine st (yI rfl ?_)
 refine st (zg (v := vl1) Try.isAgg22 rfl (zf (hS17.gblk hb2) rfl) ?_)
 refine st (zJ (n := L.length) Try.underlying22 rfl hl3.sl ?_)
 refine st (zH (k := .i64) (a := ((k : Nat) : Int)) (b := ((L.length : Nat) : Int)) rfl rfl ?_)
 refine ze ?_
 cases hc19 : decide (((k : Nat) : Int) < ((L.length : Nat) : Int))
 ·skip
  have hc19r := hc19
  have hc19 := of_decide_eq_false hc19
  refine zi rfl ?_
  refine zO ?_
  refine zF ?_
  refine zc ?_
  refine za (by kernel_rfl) (fun _ => ?_)
  refine st (zb (v := vo) rfl ?_)
  refine st (zd (v := vo) rfl ?_)
  refine ze ?_
  refine zw ?_
  refine zL Try.results54 (show _ = (vo : Value) from rfl) ?_
  have hk9 : k = L.length := by omega
  rw [hk9, List.take_length] at hS17
  refine ⟨vo, rfl, hS17⟩
 ·skip
  have hc19r := hc19
  have hc19 := of_decide_eq_true hc19
  refine zk rfl ?_
  refine zo ?_
  refine zc ?_
  refine zt ?_
  obtain ⟨⟨ho9, ho9'⟩, hd9⟩ := hG.chk_at (i := k) (by omega)
  have hvl9 : (zz n (L.take k)).length = n := xQ
  have hcl9 := YF (L := L.take k) (o := (L.getD k default).origin.toNat)
  rw [List.length_take] at hcl9
  have hva9 : (zz n (L.take k)).getD (L.getD k default).origin.toNat 0 = _ := ZI (by omega)
  refine zM (WF [fun vals wq => Sep G W ((RowE (α := Int) own 3 vo (zz n (L.take k))) :: Rs) wq, fun vals wq => Sep G W ((RowE (α := Int) own 3 vo ((zz n (L.take k)).set (((L.getD k default).origin).toNat) (((zz n (L.take k)).getD (((L.getD k default).origin).toNat) 0) + 1))) :: Rs) wq]) (AF [Vl 0 (vo), Vl 1 (.pointer (some ⟨b, 0, none⟩)), Vl 2 (.pointer (some ⟨b, 0, none⟩)), Vl 3 (.pointer (some ⟨b, 1, none⟩)), Vl 4 (vl1), Vl 5 (.int .i64 ((k : Nat) : Int)), Vl 6 (.pointer (some ⟨sb vl1, so vl1 + k * 10, none⟩)), Vl 7 (.pointer (some ⟨sb vl1, so vl1 + k * 10, none⟩)), Vl 8 (.pointer (some ⟨sb vl1, so vl1 + k * 10, none⟩)), Vl 9 (.int .i64 ((L.getD k default).origin)), Vl 10 (vo), Vl 11 (.pointer (some ⟨b, 0, none⟩)), Vl 12 (.pointer (some ⟨b, 0, none⟩)), Vl 13 (.pointer (some ⟨b, 1, none⟩)), Vl 14 (vl1), Vl 15 (.int .i64 ((k : Nat) : Int)), Vl 16 (.pointer (some ⟨sb vl1, so vl1 + k * 10, none⟩)), Vl 17 (.pointer (some ⟨sb vl1, so vl1 + k * 10, none⟩)), Vl 18 (.pointer (some ⟨sb vl1, so vl1 + k * 10, none⟩)), Vl 19 (.int .i64 ((L.getD k default).origin)), Vl 20 (.pointer (some ⟨sb vo, so vo + (((L.getD k default).origin).toNat) * 1, none⟩)), Vl 21 (.int .i64 (((zz n (L.take k)).getD (((L.getD k default).origin).toNat) 0))), Vl 22 (.int .i64 (((zz n (L.take k)).getD (((L.getD k default).origin).toNat) 0) + 1)), Vl 23 (.pointer (some ⟨sb vo, so vo + (((L.getD k default).origin).toNat) * 1, none⟩)), fun _ => True]) [[], [], [1], [1, 2], [1, 2, 3], [], [1, 2, 3, 4, 5], [1, 2, 3, 4, 5, 6], [1, 2, 3, 4, 5, 6, 7], [1, 2, 3, 4, 5, 6, 7, 8], [], [], [11], [11, 12], [11, 12, 13], [], [11, 12, 13, 14, 15], [11, 12, 13, 14, 15, 16], [11, 12, 13, 14, 15, 16, 17], [11, 12, 13, 14, 15, 16, 17, 18], [10, 11, 12, 13, 14, 15, 16, 17, 18, 19], [10, 11, 12, 13, 14, 15, 16, 17, 18, 19, 20], [10, 11, 12, 13, 14, 15, 16, 17, 18, 19, 20, 21], [0, 1, 2, 3, 4, 5, 6, 7, 8, 9, 10, 11, 12, 13, 14, 15, 16, 17, 18, 19, 20, 21, 22], [0, 1, 2, 3, 4, 5, 6, 7, 8, 9, 10, 11, 12, 13, 14, 15, 16, 17, 18, 19, 20, 21, 22, 23]] [24] [(0, 0), (0, 0), (0, 0), (0, 0), (0, 0), (0, 0), (0, 0), (0, 0), (0, 0), (0, 0), (0, 0), (0, 0), (0, 0), (0, 0), (0, 0), (0, 0), (0, 0), (0, 0), (0, 0), (0, 0), (0, 0), (0, 0), (0, 0), (0, 0), (0, 0)] (by kernel_rfl) (by kernel_rfl) (by kernel_rfl) rfl (by kernel_rfl) (by kernel_rfl) (fun _ h1 h2 h3 h4 _ => hS17.same h1 h2 h3 h4) ?_ (yc ⟨dA, dA, dA, dA, dA, dA, dA, dA, dA, dA, dA, dA, dA, dA, dA, dA, dA, dA, dA, dA, dA, dA, dA, dA, dT, trivial⟩) ⟨?_, ?_, ?_, ?_, ?_, ?_, ?_, ?_, ?_, ?_, ?_, ?_, ?_, ?_, ?_, ?_, ?_, ?_, ?_, ?_, ?_, ?_, ?_, ?_, ?_, trivial⟩ ?_
  ·intro k vals vals' w hv h
   have e : ∀ j ∈ ([24] : List Nat), vals' j = vals j := hv
   match k, h with
   | 0, h => exact h
   | 1, h => exact h
   | _ + 2, _ => trivial
  ·intro k224 vals w225 h228 h229 hW227 hA226
   refine obl rfl ?_
   exact zb (v := vo) rfl (fun vals' hv _ => ⟨rfl, hv⟩)
  ·intro k230 vals w231 h234 h235 hW233 hA232
   refine obl rfl ?_
   exact zb (v := .pointer (some ⟨b, 0, none⟩)) rfl (fun vals' hv _ => ⟨rfl, hv⟩)
  ·intro k236 vals w237 h240 h241 hW239 hA238
   have e242 := hA238 1 (by decide)
   refine obl rfl ?_
   exact zn (b := b) (o := 0) e242 (fun vals' hv _ => ⟨rfl, hv⟩)
  ·intro k243 vals w244 h247 h248 hW246 hA245
   have e249 := hA245 2 (by decide)
   refine obl rfl ?_
   exact yI e249 (fun vals' hv _ => ⟨rfl, hv⟩)
  ·intro k250 vals w251 h254 h255 hW253 hA252
   obtain rfl : k250 = 0 := Nat.le_antisymm h255 h254
   have hS256 : Sep _ _ _ _ := hW253
   have e257 := hA252 3 (by decide)
   refine obl rfl ?_
   exact zg (v := vl1) Try.isAgg22 e257 (zf (hS256.gblk hb2) rfl) (fun vals' hv _ => ⟨rfl, hv⟩)
  ·intro k258 vals w259 h262 h263 hW261 hA260
   refine obl rfl ?_
   exact zb (v := .int .i64 ((k : Nat) : Int)) rfl (fun vals' hv _ => ⟨rfl, hv⟩)
  ·intro k264 vals w265 h268 h269 hW267 hA266
   obtain rfl : k264 = 0 := Nat.le_antisymm h269 h268
   have hS270 : Sep _ _ _ _ := hW267
   have e271 := hA266 4 (by decide)
   have e272 := hA266 5 (by decide)
   refine obl rfl ?_
   have hi273 : k < L.length := (by first | omega | (simp only [lens]; omega))
   exact zl (k := 10) (i := k) Try.underlying22 Try.sizeOf36 e271 hl3.sl e272 hi273 (fun vals' hv _ => ⟨rfl, hv⟩)
  ·intro k274 vals w275 h278 h279 hW277 hA276
   have e280 := hA276 6 (by decide)
   refine obl rfl ?_
   exact zS e280 (fun vals' hv _ => ⟨rfl, hv⟩)
  ·intro k281 vals w282 h285 h286 hW284 hA283
   have e287 := hA283 7 (by decide)
   refine obl rfl ?_
   exact yM e287 (fun vals' hv _ => ⟨rfl, hv⟩)
  ·intro k288 vals w289 h292 h293 hW291 hA290
   obtain rfl : k288 = 0 := Nat.le_antisymm h293 h292
   have hS294 : Sep _ _ _ _ := hW291
   have e295 := hA290 8 (by decide)
   refine obl rfl ?_
   have hi297 : k < L.length := (by first | omega | (simp only [lens]; omega))
   obtain ⟨hce296, hde296_0, hoke296⟩ := hl3.ev hi297
   rw [← zm default hi297] at hce296 hde296_0 hoke296
   have hsm298 : ((L.getD k default).deps).length * 8 ≤ 140737488355328 := hde296_0.small
   have hcw299 := hS294.cells hce296 (hl3.foot (ne_of_lt hi297))
   exact zg (v := .int .i64 ((L.getD k default).origin)) Try.isAgg3 e295 (hcw299.get (j := 0) rfl) (fun vals' hv _ => ⟨rfl, hv⟩)
  ·intro k300 vals w301 h304 h305 hW303 hA302
   refine obl rfl ?_
   exact zb (v := vo) rfl (fun vals' hv _ => ⟨rfl, hv⟩)
  ·intro k306 vals w307 h310 h311 hW309 hA308
   refine obl rfl ?_
   exact zb (v := .pointer (some ⟨b, 0, none⟩)) rfl (fun vals' hv _ => ⟨rfl, hv⟩)
  ·intro k312 vals w313 h316 h317 hW315 hA314
   have e318 := hA314 11 (by decide)
   refine obl rfl ?_
   exact zn (b := b) (o := 0) e318 (fun vals' hv _ => ⟨rfl, hv⟩)
  ·intro k319 vals w320 h323 h324 hW322 hA321
   have e325 := hA321 12 (by decide)
   refine obl rfl ?_
   exact yI e325 (fun vals' hv _ => ⟨rfl, hv⟩)
  ·intro k326 vals w327 h330 h331 hW329 hA328
   obtain rfl : k326 = 0 := Nat.le_antisymm h331 h330
   have hS332 : Sep _ _ _ _ := hW329
   have e333 := hA328 13 (by decide)
   refine obl rfl ?_
   exact zg (v := vl1) Try.isAgg22 e333 (zf (hS332.gblk hb2) rfl) (fun vals' hv _ => ⟨rfl, hv⟩)
  ·intro k334 vals w335 h338 h339 hW337 hA336
   refine obl rfl ?_
   exact zb (v := .int .i64 ((k : Nat) : Int)) rfl (fun vals' hv _ => ⟨rfl, hv⟩)
  ·intro k340 vals w341 h344 h345 hW343 hA342
   obtain rfl : k340 = 0 := Nat.le_antisymm h345 h344
   have hS346 : Sep _ _ _ _ := hW343
   have e347 := hA342 14 (by decide)
   have e348 := hA342 15 (by decide)
   refine obl rfl ?_
   have hi349 : k < L.length := (by first | omega | (simp only [lens]; omega))
   exact zl (k := 10) (i := k) Try.underlying22 Try.sizeOf36 e347 hl3.sl e348 hi349 (fun vals' hv _ => ⟨rfl, hv⟩)
  ·intro k350 vals w351 h354 h355 hW353 hA352
   have e356 := hA352 16 (by decide)
   refine obl rfl ?_
   exact zS e356 (fun vals' hv _ => ⟨rfl, hv⟩)
  ·intro k357 vals w358 h361 h362 hW360 hA359
   have e363 := hA359 17 (by decide)
   refine obl rfl ?_
   exact yM e363 (fun vals' hv _ => ⟨rfl, hv⟩)
  ·intro k364 vals w365 h368 h369 hW367 hA366
   obtain rfl : k364 = 0 := Nat.le_antisymm h369 h368
   have hS370 : Sep _ _ _ _ := hW367
   have e371 := hA366 18 (by decide)
   refine obl rfl ?_
   have hi373 : k < L.length := (by first | omega | (simp only [lens]; omega))
   obtain ⟨hce372, hde372_0, hoke372⟩ := hl3.ev hi373
   rw [← zm default hi373] at hce372 hde372_0 hoke372
   have hsm374 : ((L.getD k default).deps).length * 8 ≤ 140737488355328 := hde372_0.small
   have hcw375 := hS370.cells hce372 (hl3.foot (ne_of_lt hi373))
   exact zg (v := .int .i64 ((L.getD k default).origin)) Try.isAgg3 e371 (hcw375.get (j := 0) rfl) (fun vals' hv _ => ⟨rfl, hv⟩)
  ·intro k376 vals w377 h380 h381 hW379 hA378
   obtain rfl : k376 = 0 := Nat.le_antisymm h381 h380
   have hS382 : Sep _ _ _ _ := hW379
   have e383 := hA378 10 (by decide)
   have e384 := hA378 19 (by decide)
   refine obl rfl ?_
   have hi385 : ((L.getD k default).origin).toNat < (zz n (L.take k)).length := (by first | omega | (simp only [lens]; omega))
   exact yv (k := 1) (i := (L.getD k default).origin) Try.underlying34 Try.sizeOf3 e383 hr18.1 e384 ⟨by omega, by omega⟩ (fun vals' hv _ => ⟨rfl, hv⟩)
  ·intro k386 vals w387 h390 h391 hW389 hA388
   obtain rfl : k386 = 0 := Nat.le_antisymm h391 h390
   have hS392 : Sep _ _ _ _ := hW389
   have e393 := hA388 20 (by decide)
   refine obl rfl ?_
   have hi395 : ((L.getD k default).origin).toNat < (zz n (L.take k)).length := (by first | omega | (simp only [lens]; omega))
   obtain ⟨_, _, hce394, rfl, hxe394⟩ := hS392.rowAt (i := 0) (j := ((L.getD k default).origin).toNat) rfl hi395
   rw [← zm 0 hi395] at hce394 hxe394
   exact zg (v := .int .i64 (((zz n (L.take k)).getD (((L.getD k default).origin).toNat) 0))) Try.isAgg3 e393 (hce394.get (j := 0) rfl) (fun vals' hv _ => ⟨rfl, hv⟩)
  ·intro k396 vals w397 h400 h401 hW399 hA398
   obtain rfl : k396 = 0 := Nat.le_antisymm h401 h400
   have hS402 : Sep _ _ _ _ := hW399
   have e403 := hA398 21 (by decide)
   refine obl rfl ?_
   have hr404 : InR (((zz n (L.take k)).getD (((L.getD k default).origin).toNat) 0) + 1) := by omega
   exact zB (r := ((zz n (L.take k)).getD (((L.getD k default).origin).toNat) 0) + 1) (k := .i64) (a := ((zz n (L.take k)).getD (((L.getD k default).origin).toNat) 0)) (b := 1) e403 rfl (zy hr404) (fun vals' hv _ => ⟨rfl, hv⟩)
  ·intro k405 vals w406 h409 h410 hW408 hA407
   obtain rfl : k405 = 0 := Nat.le_antisymm h410 h409
   have hS411 : Sep _ _ _ _ := hW408
   have e412 := hA407 0 (by decide)
   have e413 := hA407 9 (by decide)
   refine obl rfl ?_
   have hi414 : ((L.getD k default).origin).toNat < (zz n (L.take k)).length := (by first | omega | (simp only [lens]; omega))
   exact yv (k := 1) (i := (L.getD k default).origin) Try.underlying34 Try.sizeOf3 e412 hr18.1 e413 ⟨by omega, by omega⟩ (fun vals' hv _ => ⟨rfl, hv⟩)
  ·intro k211 vals w212 h215 h216 hW214 hA213
   obtain rfl : k211 = 0 := Nat.le_antisymm h216 h215
   have hS217 : Sep _ _ _ _ := hW214
   have e218 := hA213 22 (by decide)
   have e219 := hA213 23 (by decide)
   refine obl rfl ?_
   have hS221 : Sep G W ((RowE (α := Int) own 3 vo (zz n (L.take k))) :: Emp :: Rs) w212 := hS217.emp1
   refine (XH (α := Int) (j := ((L.getD k default).origin).toNat) (o := 0) (u := .int .i64 (((zz n (L.take k)).getD (((L.getD k default).origin).toNat) 0) + 1)) (us := [.int .i64 (((zz n (L.take k)).getD (((L.getD k default).origin).toNat) 0) + 1)]) (x1 := ((zz n (L.take k)).getD (((L.getD k default).origin).toNat) 0) + 1) hS221 Try.sizeOf3 (by first | omega | (simp only [lens]; omega)) e219 e218 rfl (Nat.le_of_ble_eq_true rfl) (yU ⟨rfl, trivial⟩) (fun _ _ cs0 hel _ => (by have hl0 := Src.len _ hel; have e0 : cs0.take 0 ++ (([.int .i64 (((zz n (L.take k)).getD (((L.getD k default).origin).toNat) 0) + 1)] : List Value)) ++ cs0.drop (0 + (([.int .i64 (((zz n (L.take k)).getD (((L.getD k default).origin).toNat) 0) + 1)] : List Value)).length) = (([.int .i64 (((zz n (L.take k)).getD (((L.getD k default).origin).toNat) 0) + 1)] : List Value)) := (by rw [List.drop_eq_nil_of_le (by rw [hl0]; exact Nat.le_of_ble_eq_true rfl)]; simp); rw [e0]; exact (show _ from ⟨rfl, (by omega)⟩))) ?_)
   intro w220 hS222
   have hr223 := hS222.row (i := 0) rfl
   have hr223s : _ * 8 ≤ _ := hr223.2
   intro vals' hv hv'
   refine ⟨?_, trivial⟩
   show Sep G W ((RowE (α := Int) own 3 vo ((zz n (L.take k)).set (((L.getD k default).origin).toNat) (((zz n (L.take k)).getD (((L.getD k default).origin).toNat) 0) + 1))) :: Rs) w220
   exact hS222
  intro vals w415 hW416 hA417
  have hS418 : Sep _ _ _ _ := hW416
  refine yb (kv := [(0, .pointer (some ⟨b, 0, none⟩)), (4, .int .i64 ((k : Nat) : Int)), (3, vo), (10, .int .i64 ((k : Nat) : Int)), (11, .pointer (some ⟨b, 0, none⟩)), (12, .pointer (some ⟨b, 0, none⟩)), (13, .pointer (some ⟨b, 1, none⟩)), (14, vl1), (15, .int .i64 ((L.length : Nat) : Int)), (16, .bool true)]) ⟨rfl, rfl, rfl, rfl, rfl, rfl, rfl, rfl, rfl, rfl, trivial⟩ (fun ρw415 => ?_)
  refine ze ?_
  refine za (by kernel_rfl) (fun _ => ?_)
  refine st (zb (v := .int .i64 ((k : Nat) : Int)) rfl ?_)
  have hr419 : InR ((k + 1 : Nat) : Int) := by first | omega | (simp only [lens]; omega)
  refine st (zB (r := ((k + 1 : Nat) : Int)) (k := .i64) (a := ((k : Nat) : Int)) (b := 1) rfl rfl (by rw [show (((k : Nat) : Int) + 1 : Int) = ((k + 1 : Nat) : Int) by first | omega | (simp only [lens]; omega)]; exact zy hr419) ?_)
  refine st (zd (v := .int .i64 ((k + 1 : Nat) : Int)) rfl ?_)
  refine ze ?_
  have hL420 : (zz n (L.take (k + 1))) = (zz n (L.take k)).set (((L.getD k default).origin).toNat) (((zz n (L.take k)).getD (((L.getD k default).origin).toNat) 0) + 1) := (Qo hG (by omega)).symm
  rw [← hL420] at hS418
  exact ⟨_, by omega, k + 1, vo, _, rfl, zh ⟨rfl, rfl, rfl, trivial⟩, by omega, hS418⟩

theorem VZ {G : Nat → Prop} {W w : World} {Rs : List HP} {b : Nat} {n : Nat} {L : List Ev} (hb : (RefS b n L).p W G) {e : Ev} {de0 : Value} (hde0 : RdS W G de0 e.deps) (oe : e.Ok) {o : Nat} (ho : o < n) (hS0 : Sep G W Rs w) (hel : e.deps.length = n) (hlen : ∀ y ∈ L, y.deps.length = n) : Ret Try.prog 55 [.pointer (some ⟨b, 0, none⟩), .agg (e.cells de0).toArray, .int .i64 ((o : Nat) : Int)] w (fun r w' => r = (.bool ((yN L e o)) : Value) ∧ Sep G W Rs w') := by
 have hde0s : _ * 8 ≤ _ := hde0.small
 refine zp (args := [.pointer (some ⟨b, 0, none⟩), .agg (e.cells de0).toArray, .int .i64 ((o : Nat) : Int)]) Try.func55 rfl rfl ?_
 obtain ⟨vl1, hb2, hl3⟩ := RefS.sh hb
 have hsm4 : L.length * 96 ≤ 140737488355328 := hl3.small
 refine zc ?_
 refine za (by kernel_rfl) (fun _ => ?_)
 refine st (yg (v := .agg (e.cells de0).toArray) rfl ?_)
 intro w7 b6 hn5
 have hS8 := hS0.new hn5
 refine st (zd (v := .bool false) rfl ?_)
 refine ze ?_
 refine zc ?_
 refine zc ?_
 refine za (by kernel_rfl) (fun _ => ?_)
 refine st (yB rfl ?_)
 refine st (zg (v := de0) Try.isAgg34 rfl (zf (hS8.blk (i := 0) rfl) rfl) ?_)
 refine st (zb (v := .int .i64 ((o : Nat) : Int)) rfl ?_)
 have hi9 : o < e.deps.length := (by first | omega | (simp only [lens]; omega))
 refine st (zl (k := 1) (i := o) Try.underlying34 Try.sizeOf3 rfl hde0.sl rfl hi9 ?_)
 have hi11 : o < e.deps.length := (by first | omega | (simp only [lens]; omega))
 obtain ⟨hce10, hxe10⟩ := hde0.int hi11
 rw [← zm 0 hi11] at hce10 hxe10
 have hcw12 := hS8.cells hce10 (hde0.foot (ne_of_lt hi11))
 refine st (zg (v := .int .i64 ((e.deps.getD o 0))) Try.isAgg3 rfl (hcw12.get (j := 0) rfl) ?_)
 refine st (yq (k := .i64) (a := (e.deps.getD o 0)) (b := 0) rfl rfl ?_)
 refine ze ?_
 cases hc13 : decide ((e.deps.getD o 0) = 0)
 ·skip
  have hc13r := hc13
  have hc13 := of_decide_eq_false hc13
  refine zi rfl ?_
  refine zo ?_
  refine zc ?_
  refine za (by kernel_rfl) (fun _ => ?_)
  refine st (zb (v := .pointer (some ⟨b, 0, none⟩)) rfl ?_)
  refine st (zb (v := .int .i64 ((o : Nat) : Int)) rfl ?_)
  refine st (yB rfl ?_)
  refine st (zg (v := de0) Try.isAgg34 rfl (zf (hS8.blk (i := 0) rfl) rfl) ?_)
  refine st (zb (v := .int .i64 ((o : Nat) : Int)) rfl ?_)
  have hi14 : o < e.deps.length := (by first | omega | (simp only [lens]; omega))
  refine st (zl (k := 1) (i := o) Try.underlying34 Try.sizeOf3 rfl hde0.sl rfl hi14 ?_)
  have hcw16 := hS8.cells hce10 (hde0.foot (ne_of_lt hi11))
  refine st (zg (v := .int .i64 ((e.deps.getD o 0))) Try.isAgg3 rfl (hcw16.get (j := 0) rfl) ?_)
  refine st (yP (parts' := [(0, .int .i64 ((o : Nat) : Int)), (1, .int .i64 ((e.deps.getD o 0)))]) (v := .agg #[.int .i64 ((o : Nat) : Int), .int .i64 ((e.deps.getD o 0))]) rfl (by simp [Instr.build, Instr.fill, Ev.cells, go_sem, Ev.cells]) ?_)
  refine st (zj (f := 53) (vals := [.pointer (some ⟨b, 0, none⟩), .agg #[.int .i64 ((o : Nat) : Int), .int .i64 ((e.deps.getD o 0))]]) (cap := []) rfl rfl Try.call53 (XW  hb (by omega) hxe10 hS8) ?_)
  rintro _ w19 ⟨v17, rfl, hgo18, hS20⟩
  have hr21 := hS20.row (i := 0) rfl
  have hr21s : _ * 8 ≤ _ := hr21.2
  refine st (zb (v := .tuple #[.agg (((zq L (((o : Nat) : Int), (e.deps.getD o 0))).getD default).cells v17).toArray, .bool (zq L (((o : Nat) : Int), (e.deps.getD o 0))).isSome]) rfl ?_)
  refine st (zV (vs := [.agg (((zq L (((o : Nat) : Int), (e.deps.getD o 0))).getD default).cells v17).toArray, .bool ((zq L (((o : Nat) : Int), (e.deps.getD o 0))).isSome)]) (i := 0) (v := .agg (((zq L (((o : Nat) : Int), (e.deps.getD o 0))).getD default).cells v17).toArray) rfl rfl ?_)
  refine st (zV (vs := [.agg (((zq L (((o : Nat) : Int), (e.deps.getD o 0))).getD default).cells v17).toArray, .bool ((zq L (((o : Nat) : Int), (e.deps.getD o 0))).isSome)]) (i := 1) (v := .bool ((zq L (((o : Nat) : Int), (e.deps.getD o 0))).isSome)) rfl rfl ?_)
  refine st (ye Try.zeroValue36 ?_)
  intro w24 b23 hn22
  have hS25 := hS20.new hn22
  refine stn (zY (v := .agg (((zq L (((o : Nat) : Int), (e.deps.getD o 0))).getD default).cells v17).toArray) (c' := (((zq L (((o : Nat) : Int), (e.deps.getD o 0))).getD default).cells v17).toArray) Try.sizeOf36 rfl rfl (hS25.blk (i := 0) rfl) (yU ⟨rfl, rfl, rfl, hr21.1.one, rfl, rfl, rfl, rfl, rfl, rfl, trivial⟩) (Nat.le_of_ble_eq_true rfl) rfl ?_)
  intro w26 hp27
  have hS28 := hS25.pt0 hp27
  refine st (zd (v := .bool ((zq L (((o : Nat) : Int), (e.deps.getD o 0))).isSome)) rfl ?_)
  refine ze ?_
  refine zc ?_
  refine zc ?_
  refine zW (by kernel_rfl) ?_
  refine st (zb (v := .bool ((zq L (((o : Nat) : Int), (e.deps.getD o 0))).isSome)) rfl ?_)
  refine st (yA (a := (zq L (((o : Nat) : Int), (e.deps.getD o 0))).isSome) rfl ?_)
  refine st (zb (v := .bool (!((zq L (((o : Nat) : Int), (e.deps.getD o 0))).isSome))) rfl ?_)
  refine stc (V := .pointer (some ⟨b23, 2, none⟩)) rfl rfl (fun hb29 => ?_) ?_
  ·have hl30 := hb29
   try simp only [zx] at hl30
   exact yO rfl ⟨rfl, rfl⟩
  refine stc (V := .int .i64 (((zq L (((o : Nat) : Int), (e.deps.getD o 0))).getD default).lam)) rfl rfl (fun hb31 => ?_) ?_
  ·have hl32 := hb31
   try simp only [zx] at hl32
   exact zg (v := .int .i64 (((zq L (((o : Nat) : Int), (e.deps.getD o 0))).getD default).lam)) Try.isAgg3 (show _ = (.pointer (some ⟨b23, 2, none⟩) : Value) from (if_pos hb31)) (zf (hS28.blk (i := 0) rfl) rfl) ⟨rfl, rfl⟩
  refine stc (V := .pointer (some ⟨b6, 2, none⟩)) rfl rfl (fun hb33 => ?_) ?_
  ·have hl34 := hb33
   try simp only [zx] at hl34
   exact yO rfl ⟨rfl, rfl⟩
  refine stc (V := .int .i64 (e.lam)) rfl rfl (fun hb35 => ?_) ?_
  ·have hl36 := hb35
   try simp only [zx] at hl36
   exact zg (v := .int .i64 (e.lam)) Try.isAgg3 (show _ = (.pointer (some ⟨b6, 2, none⟩) : Value) from (if_pos hb35)) (zf (hS28.blk (i := 2) rfl) rfl) ⟨rfl, rfl⟩
  refine stc (V := .bool (decide (e.lam ≤ (((zq L (((o : Nat) : Int), (e.deps.getD o 0))).getD default).lam)))) rfl rfl (fun hb37 => ?_) ?_
  ·have hl38 := hb37
   try simp only [zx] at hl38
   exact xv (k := .i64) (a := ((zq L (((o : Nat) : Int), (e.deps.getD o 0))).getD default).lam) (b := e.lam) (show _ = (.int .i64 (((zq L (((o : Nat) : Int), (e.deps.getD o 0))).getD default).lam) : Value) from (if_pos hb37)) (show _ = (.int .i64 (e.lam) : Value) from (if_pos hb37)) ⟨rfl, rfl⟩
  refine st (zX (b := !((zq L (((o : Nat) : Int), (e.deps.getD o 0))).isSome)) (b' := decide (e.lam ≤ (((zq L (((o : Nat) : Int), (e.deps.getD o 0))).getD default).lam))) rfl (fun hbp => (show _ = (.bool (decide (e.lam ≤ (((zq L (((o : Nat) : Int), (e.deps.getD o 0))).getD default).lam))) : Value) from (if_pos hbp))) ?_)
  refine ze ?_
  cases hc39 : (!((zq L (((o : Nat) : Int), (e.deps.getD o 0))).isSome)) || (decide (e.lam ≤ (((zq L (((o : Nat) : Int), (e.deps.getD o 0))).getD default).lam)))
  ·skip
   have hc39r := hc39
   try simp only [zx] at hc39
   have hq9 := hc39r
   simp only [Bool.or_eq_false_iff, Bool.not_eq_false', decide_eq_false_iff_not, Bool.not_eq_eq_eq_not, Bool.not_false] at hq9
   have hxl9 : ((zq L (((o : Nat) : Int), (e.deps.getD o 0))).getD default).deps.length = n := WD hlen rfl hq9.1
   refine zi rfl ?_
   refine zo ?_
   refine zc ?_
   refine zc ?_
   refine za (by kernel_rfl) (fun _ => ?_)
   refine st (zd (v := .int .i64 (0)) rfl ?_)
   refine ze ?_
   refine zt ?_
   refine zP (fun mq σ wq => ∃ (k : Nat) (ρ : Env), mq = n - k ∧ σ = zQ ρ [(0, .pointer (some ⟨b, 0, none⟩)), (4, .pointer (some ⟨b6, 0, none⟩)), (7, .pointer (some ⟨b23, 0, none⟩)), (9, .int .i64 ((k : Nat) : Int))] ∧ (k ≤ n) ∧ (∀ i, i < k → ((zq L (((o : Nat) : Int), (e.deps.getD o 0))).getD default).deps.getD i 0 ≤ e.deps.getD i 0) ∧ Sep G W ((Blk b23 (((zq L (((o : Nat) : Int), (e.deps.getD o 0))).getD default).cells v17).toArray 36) :: (RowE (α := Int) own 3 v17 (((zq L (((o : Nat) : Int), (e.deps.getD o 0))).getD default).deps)) :: (Blk b6 (e.cells de0).toArray 36) :: Rs) wq) ⟨0, _, rfl, zh ⟨rfl, rfl, rfl, rfl, trivial⟩, Nat.zero_le _, (fun i h => absurd h (Nat.not_lt_zero i)), hS28⟩ ?_
   rintro m41 σ42 w40 ⟨k, ρl1, rfl, rfl, hkk, hm, hS43⟩
   refine zc ?_
   refine zc ?_
   refine za (by kernel_rfl) (fun _ => ?_)
   refine st (zb (v := .int .i64 ((k : Nat) : Int)) rfl ?_)
   refine st (zb (v := .pointer (some ⟨b, 0, none⟩)) rfl ?_)
   refine st (zn (b := b) (o := 0) rfl ?_)
   refine st (Zc rfl ?_)
   refine st (zg (v := .int .i64 ((n : Nat) : Int)) Try.isAgg3 rfl (zf (hS43.gblk hb2) rfl) ?_)
   refine st (zH (k := .i64) (a := ((k : Nat) : Int)) (b := ((n : Nat) : Int)) rfl rfl ?_)
   refine ze ?_
   cases hc44 : decide (((k : Nat) : Int) < ((n : Nat) : Int))
   ·skip
    have hc44r := hc44
    have hc44 := of_decide_eq_false hc44
    refine zi rfl ?_
    refine zO ?_
    refine zF ?_
    refine zc ?_
    refine za (by kernel_rfl) (fun _ => ?_)
    refine st (zd (v := .bool true) rfl ?_)
    refine ze ?_
    refine zw ?_
    refine zL Try.results55 (show _ = (.bool true : Value) from rfl) ?_
    have hS45 : Sep G W Rs w40 := hS43.sel 3 [] (Nat.le_add_left _ _) rfl rfl
    refine ⟨?_, hS45⟩
    rw [Yd hc13 rfl hq9.1, decide_eq_true (show ((zq L (((o : Nat) : Int), (e.deps.getD o 0))).getD default).lam < e.lam by omega), Bool.true_and]
    rw [List.all_eq_true.2 (fun i hi => decide_eq_true (hm i (by have := List.mem_range.1 hi; omega)))]
   ·skip
    have hc44r := hc44
    have hc44 := of_decide_eq_true hc44
    refine zk rfl ?_
    refine zo ?_
    refine zc ?_
    refine zt ?_
    refine zc ?_
    refine zM (WF [fun vals wq => Sep G W ((Blk b23 (((zq L (((o : Nat) : Int), (e.deps.getD o 0))).getD default).cells v17).toArray 36) :: (RowE (α := Int) own 3 v17 (((zq L (((o : Nat) : Int), (e.deps.getD o 0))).getD default).deps)) :: (Blk b6 (e.cells de0).toArray 36) :: Rs) wq]) (AF [Vl 0 (.pointer (some ⟨b23, 3, none⟩)), Vl 1 (v17), Vl 2 (.int .i64 ((k : Nat) : Int)), Vl 3 (.pointer (some ⟨sb v17, so v17 + k * 1, none⟩)), Vl 4 (.int .i64 (((((zq L (((o : Nat) : Int), (e.deps.getD o 0))).getD default).deps).getD k 0))), Vl 5 (.pointer (some ⟨b6, 3, none⟩)), Vl 6 (de0), Vl 7 (.int .i64 ((k : Nat) : Int)), Vl 8 (.pointer (some ⟨sb de0, so de0 + k * 1, none⟩)), Vl 9 (.int .i64 ((e.deps.getD k 0))), Vl 10 (.bool (decide ((e.deps.getD k 0) < ((((zq L (((o : Nat) : Int), (e.deps.getD o 0))).getD default).deps).getD k 0))))]) [[], [0], [], [0, 1, 2], [0, 1, 2, 3], [], [5], [], [5, 6, 7], [5, 6, 7, 8], [0, 1, 2, 3, 4, 5, 6, 7, 8, 9]] [] [(0, 0), (0, 0), (0, 0), (0, 0), (0, 0), (0, 0), (0, 0), (0, 0), (0, 0), (0, 0), (0, 0)] (by kernel_rfl) (by kernel_rfl) (by kernel_rfl) rfl (by kernel_rfl) (by kernel_rfl) (fun _ h1 h2 h3 h4 _ => hS43.same h1 h2 h3 h4) ?_ (yc ⟨dA, dA, dA, dA, dA, dA, dA, dA, dA, dA, dA, trivial⟩) ⟨?_, ?_, ?_, ?_, ?_, ?_, ?_, ?_, ?_, ?_, ?_, trivial⟩ ?_
    ·intro k vals vals' w hv h
     match k, h with
     | 0, h => exact h
     | _ + 1, _ => trivial
    ·intro k136 vals w137 h140 h141 hW139 hA138
     refine obl rfl ?_
     exact yB rfl (fun vals' hv _ => ⟨rfl, hv⟩)
    ·intro k142 vals w143 h146 h147 hW145 hA144
     obtain rfl : k142 = 0 := Nat.le_antisymm h147 h146
     have hS148 : Sep _ _ _ _ := hW145
     have e149 := hA144 0 (by decide)
     refine obl rfl ?_
     exact zg (v := v17) Try.isAgg34 e149 (zf (hS148.blk (i := 0) rfl) rfl) (fun vals' hv _ => ⟨rfl, hv⟩)
    ·intro k150 vals w151 h154 h155 hW153 hA152
     refine obl rfl ?_
     exact zb (v := .int .i64 ((k : Nat) : Int)) rfl (fun vals' hv _ => ⟨rfl, hv⟩)
    ·intro k156 vals w157 h160 h161 hW159 hA158
     obtain rfl : k156 = 0 := Nat.le_antisymm h161 h160
     have hS162 : Sep _ _ _ _ := hW159
     have e163 := hA158 1 (by decide)
     have e164 := hA158 2 (by decide)
     refine obl rfl ?_
     have hi165 : k < (((zq L (((o : Nat) : Int), (e.deps.getD o 0))).getD default).deps).length := (by first | omega | (simp only [lens]; omega))
     exact zl (k := 1) (i := k) Try.underlying34 Try.sizeOf3 e163 hr21.1 e164 hi165 (fun vals' hv _ => ⟨rfl, hv⟩)
    ·intro k166 vals w167 h170 h171 hW169 hA168
     obtain rfl : k166 = 0 := Nat.le_antisymm h171 h170
     have hS172 : Sep _ _ _ _ := hW169
     have e173 := hA168 3 (by decide)
     refine obl rfl ?_
     have hi175 : k < (((zq L (((o : Nat) : Int), (e.deps.getD o 0))).getD default).deps).length := (by first | omega | (simp only [lens]; omega))
     obtain ⟨_, _, hce174, rfl, hxe174⟩ := hS172.rowAt (i := 1) (j := k) rfl hi175
     rw [← zm 0 hi175] at hce174 hxe174
     exact zg (v := .int .i64 (((((zq L (((o : Nat) : Int), (e.deps.getD o 0))).getD default).deps).getD k 0))) Try.isAgg3 e173 (hce174.get (j := 0) rfl) (fun vals' hv _ => ⟨rfl, hv⟩)
    ·intro k176 vals w177 h180 h181 hW179 hA178
     refine obl rfl ?_
     exact yB rfl (fun vals' hv _ => ⟨rfl, hv⟩)
    ·intro k182 vals w183 h186 h187 hW185 hA184
     obtain rfl : k182 = 0 := Nat.le_antisymm h187 h186
     have hS188 : Sep _ _ _ _ := hW185
     have e189 := hA184 5 (by decide)
     refine obl rfl ?_
     exact zg (v := de0) Try.isAgg34 e189 (zf (hS188.blk (i := 2) rfl) rfl) (fun vals' hv _ => ⟨rfl, hv⟩)
    ·intro k190 vals w191 h194 h195 hW193 hA192
     refine obl rfl ?_
     exact zb (v := .int .i64 ((k : Nat) : Int)) rfl (fun vals' hv _ => ⟨rfl, hv⟩)
    ·intro k196 vals w197 h200 h201 hW199 hA198
     obtain rfl : k196 = 0 := Nat.le_antisymm h201 h200
     have hS202 : Sep _ _ _ _ := hW199
     have e203 := hA198 6 (by decide)
     have e204 := hA198 7 (by decide)
     refine obl rfl ?_
     have hi205 : k < e.deps.length := (by first | omega | (simp only [lens]; omega))
     exact zl (k := 1) (i := k) Try.underlying34 Try.sizeOf3 e203 hde0.sl e204 hi205 (fun vals' hv _ => ⟨rfl, hv⟩)
    ·intro k206 vals w207 h210 h211 hW209 hA208
     obtain rfl : k206 = 0 := Nat.le_antisymm h211 h210
     have hS212 : Sep _ _ _ _ := hW209
     have e213 := hA208 8 (by decide)
     refine obl rfl ?_
     have hi215 : k < e.deps.length := (by first | omega | (simp only [lens]; omega))
     obtain ⟨hce214, hxe214⟩ := hde0.int hi215
     rw [← zm 0 hi215] at hce214 hxe214
     have hcw216 := hS212.cells hce214 (hde0.foot (ne_of_lt hi215))
     exact zg (v := .int .i64 ((e.deps.getD k 0))) Try.isAgg3 e213 (hcw216.get (j := 0) rfl) (fun vals' hv _ => ⟨rfl, hv⟩)
    ·intro k217 vals w218 h221 h222 hW220 hA219
     obtain rfl : k217 = 0 := Nat.le_antisymm h222 h221
     have hS223 : Sep _ _ _ _ := hW220
     have e224 := hA219 4 (by decide)
     have e225 := hA219 9 (by decide)
     refine obl rfl ?_
     exact xC (k := .i64) (a := ((((zq L (((o : Nat) : Int), (e.deps.getD o 0))).getD default).deps).getD k 0)) (b := (e.deps.getD k 0)) e224 e225 (fun vals' hv _ => ⟨rfl, hv⟩)
    intro vals w226 hW227 hA228
    have hS229 : Sep _ _ _ _ := hW227
    have e230 := hA228 10 (by decide)
    refine yb (kv := [(0, .pointer (some ⟨b, 0, none⟩)), (4, .pointer (some ⟨b6, 0, none⟩)), (7, .pointer (some ⟨b23, 0, none⟩)), (9, .int .i64 ((k : Nat) : Int)), (37, .int .i64 ((k : Nat) : Int)), (38, .pointer (some ⟨b, 0, none⟩)), (39, .pointer (some ⟨b, 0, none⟩)), (40, .pointer (some ⟨b, 0, none⟩)), (41, .int .i64 ((n : Nat) : Int)), (42, .bool true), (55, .bool (decide ((e.deps.getD k 0) < ((((zq L (((o : Nat) : Int), (e.deps.getD o 0))).getD default).deps).getD k 0))))]) ⟨rfl, rfl, rfl, rfl, rfl, rfl, rfl, rfl, rfl, rfl, (by exact e230), trivial⟩ (fun ρw226 => ?_)
    refine ze ?_
    cases hc231 : decide ((e.deps.getD k 0) < ((((zq L (((o : Nat) : Int), (e.deps.getD o 0))).getD default).deps).getD k 0))
    ·skip
     have hc231r := hc231
     have hc231 := of_decide_eq_false hc231
     refine zi rfl ?_
     refine zo ?_
     refine za (by kernel_rfl) (fun _ => ?_)
     refine st (zb (v := .int .i64 ((k : Nat) : Int)) rfl ?_)
     have hr232 : InR ((k + 1 : Nat) : Int) := by first | omega | (simp only [lens]; omega)
     refine st (zB (r := ((k + 1 : Nat) : Int)) (k := .i64) (a := ((k : Nat) : Int)) (b := 1) rfl rfl (by rw [show (((k : Nat) : Int) + 1 : Int) = ((k + 1 : Nat) : Int) by first | omega | (simp only [lens]; omega)]; exact zy hr232) ?_)
     refine st (zd (v := .int .i64 ((k + 1 : Nat) : Int)) rfl ?_)
     refine ze ?_
     exact ⟨_, by omega, k + 1, _, rfl, zh ⟨rfl, rfl, rfl, rfl, trivial⟩, by omega, (yE hm (by omega)), hS229⟩
    ·skip
     have hc231r := hc231
     have hc231 := of_decide_eq_true hc231
     refine zk rfl ?_
     refine zc ?_
     refine za (by kernel_rfl) (fun _ => ?_)
     refine st (zd (v := .bool false) rfl ?_)
     refine ze ?_
     refine zw ?_
     refine zL Try.results55 (show _ = (.bool false : Value) from rfl) ?_
     have hS233 : Sep G W Rs w226 := hS229.sel 3 [] (Nat.le_add_left _ _) rfl rfl
     refine ⟨?_, hS233⟩
     rw [Yd hc13 rfl hq9.1, decide_eq_true (show ((zq L (((o : Nat) : Int), (e.deps.getD o 0))).getD default).lam < e.lam by omega), Bool.true_and]
     congr 1
     symm
     rw [List.all_eq_false]
     exact ⟨k, List.mem_range.2 (by omega), by simp only [decide_eq_true_eq]; omega⟩
  ·skip
   have hc39r := hc39
   try simp only [zx] at hc39
   refine zk rfl ?_
   refine zc ?_
   refine za (by kernel_rfl) (fun _ => ?_)
   refine st (zd (v := .bool false) rfl ?_)
   refine ze ?_
   refine zw ?_
   refine zL Try.results55 (show _ = (.bool false : Value) from rfl) ?_
   have hS234 : Sep G W Rs w26 := hS28.sel 3 [] (Nat.le_add_left _ _) rfl rfl
   refine ⟨?_, hS234⟩
   cases hq9 : (zq L (((o : Nat) : Int), e.deps.getD o 0)).isSome
   · rw [QC hc13 hq9]
   · rw [Yd hc13 rfl hq9]
     have h9 : ¬ ((zq L (((o : Nat) : Int), (e.deps.getD o 0))).getD default).lam < e.lam := by rw [hq9] at hc39r; simpa using hc39r
     rw [decide_eq_false h9]; rfl
 ·skip
  have hc13r := hc13
  have hc13 := of_decide_eq_true hc13
  refine zk rfl ?_
  refine zc ?_
  refine za (by kernel_rfl) (fun _ => ?_)
  refine st (zd (v := .bool true) rfl ?_)
  refine ze ?_
  refine zw ?_
  refine zL Try.results55 (show _ = (.bool true : Value) from rfl) ?_
  have hS235 : Sep G W Rs w7 := hS8.sel 1 [] (Nat.le_add_left _ _) rfl rfl
  refine ⟨?_, hS235⟩
  rw [Kb hc13]

theorem ZT {l : List Int} {k : Nat} (hk : k < l.length) (h : l.getD k 0 < 0) : xU l = true := by
  unfold xU
  rw [List.any_eq_true]
  exact ⟨l.getD k 0, by rw [zm _ hk]; exact List.getElem_mem hk, by simpa using h⟩
theorem ZR {l : List Int} (h : ∀ i, i < l.length → ¬ l.getD i 0 < 0) : xU l = false := by
  unfold xU
  rw [List.any_eq_false]
  intro x hx
  obtain ⟨i, hi, rfl⟩ := List.getElem_of_mem hx
  have := h i hi
  rw [zm _ hi] at this
  simpa using this
theorem xw {e : Ev} {n : Int} : zI e n =
    if ((((((decide (e.origin < 0) || decide (n ≤ e.origin)) || decide (e.seq < 1)) || decide (e.lam < 1)) || decide (e.agg < 0)) || decide (e.key < 0)) || !decide (((e.deps.length : Nat) : Int) = n)) = true then 1
    else if xU e.deps = true then 1
    else if (!decide (e.deps.getD e.origin.toNat 0 = e.seq - 1)) = true then 9
    else if (decide (e.op < 1) || decide (5 < e.op)) = true then 2
    else if (((decide (e.typ < 0) || decide (7 < e.typ)) || decide (e.field < 0)) || decide (7 < e.field)) = true then 8
    else 0 := by
  unfold zI
  have h1 : decide (min e.seq e.lam < 1) = (decide (e.seq < 1) || decide (e.lam < 1)) := by rw [Bool.eq_iff_iff]; simp only [Bool.or_eq_true, decide_eq_true_eq]; omega
  have h2 : decide (min e.agg e.key < 0) = (decide (e.agg < 0) || decide (e.key < 0)) := by rw [Bool.eq_iff_iff]; simp only [Bool.or_eq_true, decide_eq_true_eq]; omega
  have h3 : ((decide (min e.typ e.field < 0) || decide (8 ≤ e.typ)) || decide (8 ≤ e.field)) = (((decide (e.typ < 0) || decide (7 < e.typ)) || decide (e.field < 0)) || decide (7 < e.field)) := by rw [Bool.eq_iff_iff]; simp only [Bool.or_eq_true, decide_eq_true_eq]; omega
  rw [h1, h2, h3]
  cases hn : xU e.deps
  · simp only [Bool.or_false, Bool.or_assoc, Bool.false_eq_true, if_false]
  · simp only [Bool.or_true, Bool.or_assoc, if_true]
    split <;> rfl
theorem WI {G : Nat → Prop} {W w : World} {Rs : List HP} {e : Ev} {de0 : Value} (hde0 : RdS W G de0 e.deps) (oe : e.Ok) {n : Nat} (hn : n ≤ 1000) (hS0 : Sep G W Rs w) : Ret Try.prog 52 [.agg (e.cells de0).toArray, .int .i64 ((n : Nat) : Int)] w (fun r w' => r = (.int .i64 ((zI e ((n : Nat) : Int))) : Value) ∧ Sep G W Rs w') := by
 have hde0s : _ * 8 ≤ _ := hde0.small
 refine zp (args := [.agg (e.cells de0).toArray, .int .i64 ((n : Nat) : Int)]) Try.func52 rfl rfl ?_
 refine zc ?_
 refine za (by kernel_rfl) (fun _ => ?_)
 refine st (yg (v := .agg (e.cells de0).toArray) rfl ?_)
 intro w3 b2 hn1
 have hS4 := hS0.new hn1
 refine st (zd (v := .int .i64 (0)) rfl ?_)
 refine ze ?_
 refine zc ?_
 refine zc ?_
 refine zW (by kernel_rfl) ?_
 refine st (zS rfl ?_)
 refine st (yM rfl ?_)
 refine st (zg (v := .int .i64 (e.origin)) Try.isAgg3 rfl (zf (hS4.blk (i := 0) rfl) rfl) ?_)
 refine st (zH (k := .i64) (a := e.origin) (b := 0) rfl rfl ?_)
 refine st (zb (v := .bool (decide (e.origin < 0))) rfl ?_)
 refine stc (V := .pointer (some ⟨b2, 0, none⟩)) rfl rfl (fun hb5 => ?_) ?_
 ·have hl6 := hb5
  have hl6 := of_decide_eq_false hl6
  exact zS rfl ⟨rfl, rfl⟩
 refine stc (V := .pointer (some ⟨b2, 0, none⟩)) rfl rfl (fun hb7 => ?_) ?_
 ·have hl8 := hb7
  have hl8 := of_decide_eq_false hl8
  exact yM (show _ = (.pointer (some ⟨b2, 0, none⟩) : Value) from (if_pos hb7)) ⟨rfl, rfl⟩
 refine stc (V := .int .i64 (e.origin)) rfl rfl (fun hb9 => ?_) ?_
 ·have hl10 := hb9
  have hl10 := of_decide_eq_false hl10
  exact zg (v := .int .i64 (e.origin)) Try.isAgg3 (show _ = (.pointer (some ⟨b2, 0, none⟩) : Value) from (if_pos hb9)) (zf (hS4.blk (i := 0) rfl) rfl) ⟨rfl, rfl⟩
 refine stc (V := .int .i64 ((n : Nat) : Int)) rfl rfl (fun hb11 => ?_) ?_
 ·have hl12 := hb11
  have hl12 := of_decide_eq_false hl12
  exact zb (v := .int .i64 ((n : Nat) : Int)) rfl ⟨rfl, rfl⟩
 refine stc (V := .bool (decide (((n : Nat) : Int) ≤ e.origin))) rfl rfl (fun hb13 => ?_) ?_
 ·have hl14 := hb13
  have hl14 := of_decide_eq_false hl14
  exact xv (k := .i64) (a := e.origin) (b := ((n : Nat) : Int)) (show _ = (.int .i64 (e.origin) : Value) from (if_pos hb13)) (show _ = (.int .i64 ((n : Nat) : Int) : Value) from (if_pos hb13)) ⟨rfl, rfl⟩
 refine st (zX (b := decide (e.origin < 0)) (b' := decide (((n : Nat) : Int) ≤ e.origin)) rfl (fun hbp => (show _ = (.bool (decide (((n : Nat) : Int) ≤ e.origin)) : Value) from (if_pos hbp))) ?_)
 refine st (zb (v := .bool ((decide (e.origin < 0)) || (decide (((n : Nat) : Int) ≤ e.origin)))) rfl ?_)
 refine stc (V := .pointer (some ⟨b2, 0, none⟩)) rfl rfl (fun hb15 => ?_) ?_
 ·have hl16 := hb15
  try simp only [zx] at hl16
  exact zS rfl ⟨rfl, rfl⟩
 refine stc (V := .pointer (some ⟨b2, 1, none⟩)) rfl rfl (fun hb17 => ?_) ?_
 ·have hl18 := hb17
  try simp only [zx] at hl18
  exact xg (show _ = (.pointer (some ⟨b2, 0, none⟩) : Value) from (if_pos hb17)) ⟨rfl, rfl⟩
 refine stc (V := .int .i64 (e.seq)) rfl rfl (fun hb19 => ?_) ?_
 ·have hl20 := hb19
  try simp only [zx] at hl20
  exact zg (v := .int .i64 (e.seq)) Try.isAgg3 (show _ = (.pointer (some ⟨b2, 1, none⟩) : Value) from (if_pos hb19)) (zf (hS4.blk (i := 0) rfl) rfl) ⟨rfl, rfl⟩
 refine stc (V := .bool (decide (e.seq < 1))) rfl rfl (fun hb21 => ?_) ?_
 ·have hl22 := hb21
  try simp only [zx] at hl22
  exact zH (k := .i64) (a := e.seq) (b := 1) (show _ = (.int .i64 (e.seq) : Value) from (if_pos hb21)) rfl ⟨rfl, rfl⟩
 refine st (zX (b := (decide (e.origin < 0)) || (decide (((n : Nat) : Int) ≤ e.origin))) (b' := decide (e.seq < 1)) rfl (fun hbp => (show _ = (.bool (decide (e.seq < 1)) : Value) from (if_pos hbp))) ?_)
 refine st (zb (v := .bool (((decide (e.origin < 0)) || (decide (((n : Nat) : Int) ≤ e.origin))) || (decide (e.seq < 1)))) rfl ?_)
 refine stc (V := .pointer (some ⟨b2, 2, none⟩)) rfl rfl (fun hb23 => ?_) ?_
 ·have hl24 := hb23
  try simp only [zx] at hl24
  exact yO rfl ⟨rfl, rfl⟩
 refine stc (V := .int .i64 (e.lam)) rfl rfl (fun hb25 => ?_) ?_
 ·have hl26 := hb25
  try simp only [zx] at hl26
  exact zg (v := .int .i64 (e.lam)) Try.isAgg3 (show _ = (.pointer (some ⟨b2, 2, none⟩) : Value) from (if_pos hb25)) (zf (hS4.blk (i := 0) rfl) rfl) ⟨rfl, rfl⟩
 refine stc (V := .bool (decide (e.lam < 1))) rfl rfl (fun hb27 => ?_) ?_
 ·have hl28 := hb27
  try simp only [zx] at hl28
  exact zH (k := .i64) (a := e.lam) (b := 1) (show _ = (.int .i64 (e.lam) : Value) from (if_pos hb27)) rfl ⟨rfl, rfl⟩
 refine st (zX (b := ((decide (e.origin < 0)) || (decide (((n : Nat) : Int) ≤ e.origin))) || (decide (e.seq < 1))) (b' := decide (e.lam < 1)) rfl (fun hbp => (show _ = (.bool (decide (e.lam < 1)) : Value) from (if_pos hbp))) ?_)
 refine st (zb (v := .bool ((((decide (e.origin < 0)) || (decide (((n : Nat) : Int) ≤ e.origin))) || (decide (e.seq < 1))) || (decide (e.lam < 1)))) rfl ?_)
 refine stc (V := .pointer (some ⟨b2, 5, none⟩)) rfl rfl (fun hb29 => ?_) ?_
 ·have hl30 := hb29
  try simp only [zx] at hl30
  exact XO rfl ⟨rfl, rfl⟩
 refine stc (V := .int .i64 (e.agg)) rfl rfl (fun hb31 => ?_) ?_
 ·have hl32 := hb31
  try simp only [zx] at hl32
  exact zg (v := .int .i64 (e.agg)) Try.isAgg3 (show _ = (.pointer (some ⟨b2, 5, none⟩) : Value) from (if_pos hb31)) (zf (hS4.blk (i := 0) rfl) rfl) ⟨rfl, rfl⟩
 refine stc (V := .bool (decide (e.agg < 0))) rfl rfl (fun hb33 => ?_) ?_
 ·have hl34 := hb33
  try simp only [zx] at hl34
  exact zH (k := .i64) (a := e.agg) (b := 0) (show _ = (.int .i64 (e.agg) : Value) from (if_pos hb33)) rfl ⟨rfl, rfl⟩
 refine st (zX (b := (((decide (e.origin < 0)) || (decide (((n : Nat) : Int) ≤ e.origin))) || (decide (e.seq < 1))) || (decide (e.lam < 1))) (b' := decide (e.agg < 0)) rfl (fun hbp => (show _ = (.bool (decide (e.agg < 0)) : Value) from (if_pos hbp))) ?_)
 refine st (zb (v := .bool (((((decide (e.origin < 0)) || (decide (((n : Nat) : Int) ≤ e.origin))) || (decide (e.seq < 1))) || (decide (e.lam < 1))) || (decide (e.agg < 0)))) rfl ?_)
 refine stc (V := .pointer (some ⟨b2, 9, none⟩)) rfl rfl (fun hb35 => ?_) ?_
 ·have hl36 := hb35
  try simp only [zx] at hl36
  exact XV rfl ⟨rfl, rfl⟩
 refine stc (V := .int .i64 (e.key)) rfl rfl (fun hb37 => ?_) ?_
 ·have hl38 := hb37
  try simp only [zx] at hl38
  exact zg (v := .int .i64 (e.key)) Try.isAgg3 (show _ = (.pointer (some ⟨b2, 9, none⟩) : Value) from (if_pos hb37)) (zf (hS4.blk (i := 0) rfl) rfl) ⟨rfl, rfl⟩
 refine stc (V := .bool (decide (e.key < 0))) rfl rfl (fun hb39 => ?_) ?_
 ·have hl40 := hb39
  try simp only [zx] at hl40
  exact zH (k := .i64) (a := e.key) (b := 0) (show _ = (.int .i64 (e.key) : Value) from (if_pos hb39)) rfl ⟨rfl, rfl⟩
 refine st (zX (b := ((((decide (e.origin < 0)) || (decide (((n : Nat) : Int) ≤ e.origin))) || (decide (e.seq < 1))) || (decide (e.lam < 1))) || (decide (e.agg < 0))) (b' := decide (e.key < 0)) rfl (fun hbp => (show _ = (.bool (decide (e.key < 0)) : Value) from (if_pos hbp))) ?_)
 refine st (zb (v := .bool ((((((decide (e.origin < 0)) || (decide (((n : Nat) : Int) ≤ e.origin))) || (decide (e.seq < 1))) || (decide (e.lam < 1))) || (decide (e.agg < 0))) || (decide (e.key < 0)))) rfl ?_)
 refine stc (V := .pointer (some ⟨b2, 3, none⟩)) rfl rfl (fun hb41 => ?_) ?_
 ·have hl42 := hb41
  try simp only [zx] at hl42
  exact yB rfl ⟨rfl, rfl⟩
 refine stc (V := de0) rfl rfl (fun hb43 => ?_) ?_
 ·have hl44 := hb43
  try simp only [zx] at hl44
  exact zg (v := de0) Try.isAgg34 (show _ = (.pointer (some ⟨b2, 3, none⟩) : Value) from (if_pos hb43)) (zf (hS4.blk (i := 0) rfl) rfl) ⟨rfl, rfl⟩
 refine stc (V := .int .i64 ((e.deps.length : Nat) : Int)) rfl rfl (fun hb45 => ?_) ?_
 ·have hl46 := hb45
  try simp only [zx] at hl46
  exact zJ (n := e.deps.length) Try.underlying34 (show _ = (de0 : Value) from (if_pos hb45)) hde0.sl ⟨rfl, rfl⟩
 refine stc (V := .int .i64 ((n : Nat) : Int)) rfl rfl (fun hb47 => ?_) ?_
 ·have hl48 := hb47
  try simp only [zx] at hl48
  exact zb (v := .int .i64 ((n : Nat) : Int)) rfl ⟨rfl, rfl⟩
 refine stc (V := .bool (!decide (((e.deps.length : Nat) : Int) = ((n : Nat) : Int)))) rfl rfl (fun hb49 => ?_) ?_
 ·have hl50 := hb49
  try simp only [zx] at hl50
  exact yH (k := .i64) (a := ((e.deps.length : Nat) : Int)) (b := ((n : Nat) : Int)) (show _ = (.int .i64 ((e.deps.length : Nat) : Int) : Value) from (if_pos hb49)) (show _ = (.int .i64 ((n : Nat) : Int) : Value) from (if_pos hb49)) ⟨rfl, rfl⟩
 refine st (zX (b := (((((decide (e.origin < 0)) || (decide (((n : Nat) : Int) ≤ e.origin))) || (decide (e.seq < 1))) || (decide (e.lam < 1))) || (decide (e.agg < 0))) || (decide (e.key < 0))) (b' := !decide (((e.deps.length : Nat) : Int) = ((n : Nat) : Int))) rfl (fun hbp => (show _ = (.bool (!decide (((e.deps.length : Nat) : Int) = ((n : Nat) : Int))) : Value) from (if_pos hbp))) ?_)
 refine ze ?_
 cases hc51 : ((((((decide (e.origin < 0)) || (decide (((n : Nat) : Int) ≤ e.origin))) || (decide (e.seq < 1))) || (decide (e.lam < 1))) || (decide (e.agg < 0))) || (decide (e.key < 0))) || (!decide (((e.deps.length : Nat) : Int) = ((n : Nat) : Int)))
 ·skip
  have hc51r := hc51
  try simp only [zx] at hc51
  refine zi rfl ?_
  refine zo ?_
  refine zc ?_
  refine zc ?_
  refine za (by kernel_rfl) (fun _ => ?_)
  refine st (zd (v := .int .i64 (0)) rfl ?_)
  refine ze ?_
  refine zt ?_
  refine zP (fun mq σ wq => ∃ (k : Nat) (ρ : Env), mq = n - k ∧ σ = zQ ρ [(2, .pointer (some ⟨b2, 0, none⟩)), (1, .int .i64 ((n : Nat) : Int)), (5, .int .i64 ((k : Nat) : Int))] ∧ (k ≤ n) ∧ (∀ i, i < k → ¬ e.deps.getD i 0 < 0) ∧ Sep G W ((Blk b2 (e.cells de0).toArray 36) :: Rs) wq) ⟨0, _, rfl, zh ⟨rfl, rfl, rfl, trivial⟩, Nat.zero_le _, (fun i h => absurd h (Nat.not_lt_zero i)), hS4⟩ ?_
  rintro m53 σ54 w52 ⟨k, ρl1, rfl, rfl, hkk, hm, hS55⟩
  refine zc ?_
  refine zc ?_
  refine za (by kernel_rfl) (fun _ => ?_)
  refine st (zb (v := .int .i64 ((k : Nat) : Int)) rfl ?_)
  refine st (zb (v := .int .i64 ((n : Nat) : Int)) rfl ?_)
  refine st (zH (k := .i64) (a := ((k : Nat) : Int)) (b := ((n : Nat) : Int)) rfl rfl ?_)
  refine ze ?_
  cases hc56 : decide (((k : Nat) : Int) < ((n : Nat) : Int))
  ·skip
   have hc56r := hc56
   have hc56 := of_decide_eq_false hc56
   refine zi rfl ?_
   refine zO ?_
   refine zF ?_
   refine zc ?_
   refine zc ?_
   refine zM (WF [fun vals wq => Sep G W ((Blk b2 (e.cells de0).toArray 36) :: Rs) wq]) (AF [Vl 0 (.pointer (some ⟨b2, 3, none⟩)), Vl 1 (de0), Vl 2 (.pointer (some ⟨b2, 0, none⟩)), Vl 3 (.pointer (some ⟨b2, 0, none⟩)), Vl 4 (.int .i64 (e.origin)), Vl 5 (.pointer (some ⟨sb de0, so de0 + e.origin.toNat * 1, none⟩)), Vl 6 (.int .i64 ((e.deps.getD e.origin.toNat 0))), Vl 7 (.pointer (some ⟨b2, 0, none⟩)), Vl 8 (.pointer (some ⟨b2, 1, none⟩)), Vl 9 (.int .i64 (e.seq)), Vl 10 (.int .i64 (e.seq - 1)), Vl 11 (.bool (!decide ((e.deps.getD e.origin.toNat 0) = (e.seq - 1))))]) [[], [0], [], [2], [2, 3], [0, 1, 2, 3, 4], [0, 1, 2, 3, 4, 5], [], [7], [7, 8], [7, 8, 9], [0, 1, 2, 3, 4, 5, 6, 7, 8, 9, 10]] [] [(0, 0), (0, 0), (0, 0), (0, 0), (0, 0), (0, 0), (0, 0), (0, 0), (0, 0), (0, 0), (0, 0), (0, 0)] (by kernel_rfl) (by kernel_rfl) (by kernel_rfl) rfl (by kernel_rfl) (by kernel_rfl) (fun _ h1 h2 h3 h4 _ => hS55.same h1 h2 h3 h4) ?_ (yc ⟨dA, dA, dA, dA, dA, dA, dA, dA, dA, dA, dA, dA, trivial⟩) ⟨?_, ?_, ?_, ?_, ?_, ?_, ?_, ?_, ?_, ?_, ?_, ?_, trivial⟩ ?_
   ·intro k vals vals' w hv h
    match k, h with
    | 0, h => exact h
    | _ + 1, _ => trivial
   ·intro k152 vals w153 h156 h157 hW155 hA154
    refine obl rfl ?_
    exact yB rfl (fun vals' hv _ => ⟨rfl, hv⟩)
   ·intro k158 vals w159 h162 h163 hW161 hA160
    obtain rfl : k158 = 0 := Nat.le_antisymm h163 h162
    have hS164 : Sep _ _ _ _ := hW161
    have e165 := hA160 0 (by decide)
    refine obl rfl ?_
    exact zg (v := de0) Try.isAgg34 e165 (zf (hS164.blk (i := 0) rfl) rfl) (fun vals' hv _ => ⟨rfl, hv⟩)
   ·intro k166 vals w167 h170 h171 hW169 hA168
    refine obl rfl ?_
    exact zS rfl (fun vals' hv _ => ⟨rfl, hv⟩)
   ·intro k172 vals w173 h176 h177 hW175 hA174
    have e178 := hA174 2 (by decide)
    refine obl rfl ?_
    exact yM e178 (fun vals' hv _ => ⟨rfl, hv⟩)
   ·intro k179 vals w180 h183 h184 hW182 hA181
    obtain rfl : k179 = 0 := Nat.le_antisymm h184 h183
    have hS185 : Sep _ _ _ _ := hW182
    have e186 := hA181 3 (by decide)
    refine obl rfl ?_
    exact zg (v := .int .i64 (e.origin)) Try.isAgg3 e186 (zf (hS185.blk (i := 0) rfl) rfl) (fun vals' hv _ => ⟨rfl, hv⟩)
   ·intro k187 vals w188 h191 h192 hW190 hA189
    obtain rfl : k187 = 0 := Nat.le_antisymm h192 h191
    have hS193 : Sep _ _ _ _ := hW190
    have e194 := hA189 1 (by decide)
    have e195 := hA189 4 (by decide)
    refine obl rfl ?_
    have hi196 : e.origin.toNat < e.deps.length := (by first | omega | (simp only [lens]; omega))
    exact yv (k := 1) (i := e.origin) Try.underlying34 Try.sizeOf3 e194 hde0.sl e195 ⟨by omega, by omega⟩ (fun vals' hv _ => ⟨rfl, hv⟩)
   ·intro k197 vals w198 h201 h202 hW200 hA199
    obtain rfl : k197 = 0 := Nat.le_antisymm h202 h201
    have hS203 : Sep _ _ _ _ := hW200
    have e204 := hA199 5 (by decide)
    refine obl rfl ?_
    have hi206 : e.origin.toNat < e.deps.length := (by first | omega | (simp only [lens]; omega))
    obtain ⟨hce205, hxe205⟩ := hde0.int hi206
    rw [← zm 0 hi206] at hce205 hxe205
    have hcw207 := hS203.cells hce205 (hde0.foot (ne_of_lt hi206))
    exact zg (v := .int .i64 ((e.deps.getD e.origin.toNat 0))) Try.isAgg3 e204 (hcw207.get (j := 0) rfl) (fun vals' hv _ => ⟨rfl, hv⟩)
   ·intro k208 vals w209 h212 h213 hW211 hA210
    refine obl rfl ?_
    exact zS rfl (fun vals' hv _ => ⟨rfl, hv⟩)
   ·intro k214 vals w215 h218 h219 hW217 hA216
    have e220 := hA216 7 (by decide)
    refine obl rfl ?_
    exact xg e220 (fun vals' hv _ => ⟨rfl, hv⟩)
   ·intro k221 vals w222 h225 h226 hW224 hA223
    obtain rfl : k221 = 0 := Nat.le_antisymm h226 h225
    have hS227 : Sep _ _ _ _ := hW224
    have e228 := hA223 8 (by decide)
    refine obl rfl ?_
    exact zg (v := .int .i64 (e.seq)) Try.isAgg3 e228 (zf (hS227.blk (i := 0) rfl) rfl) (fun vals' hv _ => ⟨rfl, hv⟩)
   ·intro k229 vals w230 h233 h234 hW232 hA231
    obtain rfl : k229 = 0 := Nat.le_antisymm h234 h233
    have hS235 : Sep _ _ _ _ := hW232
    have e236 := hA231 9 (by decide)
    refine obl rfl ?_
    have hr237 : InR (e.seq - 1) := (by have h9 := oe.seq; omega)
    exact Za (r := e.seq - 1) (k := .i64) (a := e.seq) (b := 1) e236 rfl (by rw [show (e.seq - 1 : Int) = e.seq - 1 from rfl]; exact zy hr237) (fun vals' hv _ => ⟨rfl, hv⟩)
   ·intro k238 vals w239 h242 h243 hW241 hA240
    obtain rfl : k238 = 0 := Nat.le_antisymm h243 h242
    have hS244 : Sep _ _ _ _ := hW241
    have e245 := hA240 6 (by decide)
    have e246 := hA240 10 (by decide)
    refine obl rfl ?_
    exact yH (k := .i64) (a := (e.deps.getD e.origin.toNat 0)) (b := e.seq - 1) e245 e246 (fun vals' hv _ => ⟨rfl, hv⟩)
   intro vals w247 hW248 hA249
   have hS250 : Sep _ _ _ _ := hW248
   have e251 := hA249 11 (by decide)
   refine yb (kv := [(2, .pointer (some ⟨b2, 0, none⟩)), (1, .int .i64 ((n : Nat) : Int)), (5, .int .i64 ((k : Nat) : Int)), (45, .int .i64 ((k : Nat) : Int)), (46, .int .i64 ((n : Nat) : Int)), (47, .bool false), (67, .bool (!decide ((e.deps.getD e.origin.toNat 0) = (e.seq - 1))))]) ⟨rfl, rfl, rfl, rfl, rfl, rfl, (by exact e251), trivial⟩ (fun ρw247 => ?_)
   refine ze ?_
   cases hc252 : !decide ((e.deps.getD e.origin.toNat 0) = (e.seq - 1))
   ·skip
    have hc252r := hc252
    have hc252 := yh hc252
    refine zi rfl ?_
    refine zo ?_
    refine zc ?_
    refine zc ?_
    refine zW (by kernel_rfl) ?_
    refine st (Yf rfl ?_)
    refine st (zg (v := .int .i64 (e.op)) Try.isAgg3 rfl (zf (hS250.blk (i := 0) rfl) rfl) ?_)
    refine st (zH (k := .i64) (a := e.op) (b := 1) rfl rfl ?_)
    refine st (zb (v := .bool (decide (e.op < 1))) rfl ?_)
    refine stc (V := .pointer (some ⟨b2, 7, none⟩)) rfl rfl (fun hb253 => ?_) ?_
    ·have hl254 := hb253
     have hl254 := of_decide_eq_false hl254
     exact Yf rfl ⟨rfl, rfl⟩
    refine stc (V := .int .i64 (e.op)) rfl rfl (fun hb255 => ?_) ?_
    ·have hl256 := hb255
     have hl256 := of_decide_eq_false hl256
     exact zg (v := .int .i64 (e.op)) Try.isAgg3 (show _ = (.pointer (some ⟨b2, 7, none⟩) : Value) from (if_pos hb255)) (zf (hS250.blk (i := 0) rfl) rfl) ⟨rfl, rfl⟩
    refine stc (V := .bool (decide (5 < e.op))) rfl rfl (fun hb257 => ?_) ?_
    ·have hl258 := hb257
     have hl258 := of_decide_eq_false hl258
     exact xC (k := .i64) (a := e.op) (b := 5) (show _ = (.int .i64 (e.op) : Value) from (if_pos hb257)) rfl ⟨rfl, rfl⟩
    refine st (zX (b := decide (e.op < 1)) (b' := decide (5 < e.op)) rfl (fun hbp => (show _ = (.bool (decide (5 < e.op)) : Value) from (if_pos hbp))) ?_)
    refine ze ?_
    cases hc259 : (decide (e.op < 1)) || (decide (5 < e.op))
    ·skip
     have hc259r := hc259
     try simp only [zx] at hc259
     refine zi rfl ?_
     refine zo ?_
     refine zc ?_
     refine zc ?_
     refine zW (by kernel_rfl) ?_
     refine st (ZW rfl ?_)
     refine st (zg (v := .int .i64 (e.typ)) Try.isAgg3 rfl (zf (hS250.blk (i := 0) rfl) rfl) ?_)
     refine st (zH (k := .i64) (a := e.typ) (b := 0) rfl rfl ?_)
     refine st (zb (v := .bool (decide (e.typ < 0))) rfl ?_)
     refine stc (V := .pointer (some ⟨b2, 4, none⟩)) rfl rfl (fun hb260 => ?_) ?_
     ·have hl261 := hb260
      have hl261 := of_decide_eq_false hl261
      exact ZW rfl ⟨rfl, rfl⟩
     refine stc (V := .int .i64 (e.typ)) rfl rfl (fun hb262 => ?_) ?_
     ·have hl263 := hb262
      have hl263 := of_decide_eq_false hl263
      exact zg (v := .int .i64 (e.typ)) Try.isAgg3 (show _ = (.pointer (some ⟨b2, 4, none⟩) : Value) from (if_pos hb262)) (zf (hS250.blk (i := 0) rfl) rfl) ⟨rfl, rfl⟩
     refine stc (V := .bool (decide (7 < e.typ))) rfl rfl (fun hb264 => ?_) ?_
     ·have hl265 := hb264
      have hl265 := of_decide_eq_false hl265
      exact xC (k := .i64) (a := e.typ) (b := 7) (show _ = (.int .i64 (e.typ) : Value) from (if_pos hb264)) rfl ⟨rfl, rfl⟩
     refine st (zX (b := decide (e.typ < 0)) (b' := decide (7 < e.typ)) rfl (fun hbp => (show _ = (.bool (decide (7 < e.typ)) : Value) from (if_pos hbp))) ?_)
     refine st (zb (v := .bool ((decide (e.typ < 0)) || (decide (7 < e.typ)))) rfl ?_)
     refine stc (V := .pointer (some ⟨b2, 6, none⟩)) rfl rfl (fun hb266 => ?_) ?_
     ·have hl267 := hb266
      try simp only [zx] at hl267
      exact ZZ rfl ⟨rfl, rfl⟩
     refine stc (V := .int .i64 (e.field)) rfl rfl (fun hb268 => ?_) ?_
     ·have hl269 := hb268
      try simp only [zx] at hl269
      exact zg (v := .int .i64 (e.field)) Try.isAgg3 (show _ = (.pointer (some ⟨b2, 6, none⟩) : Value) from (if_pos hb268)) (zf (hS250.blk (i := 0) rfl) rfl) ⟨rfl, rfl⟩
     refine stc (V := .bool (decide (e.field < 0))) rfl rfl (fun hb270 => ?_) ?_
     ·have hl271 := hb270
      try simp only [zx] at hl271
      exact zH (k := .i64) (a := e.field) (b := 0) (show _ = (.int .i64 (e.field) : Value) from (if_pos hb270)) rfl ⟨rfl, rfl⟩
     refine st (zX (b := (decide (e.typ < 0)) || (decide (7 < e.typ))) (b' := decide (e.field < 0)) rfl (fun hbp => (show _ = (.bool (decide (e.field < 0)) : Value) from (if_pos hbp))) ?_)
     refine st (zb (v := .bool (((decide (e.typ < 0)) || (decide (7 < e.typ))) || (decide (e.field < 0)))) rfl ?_)
     refine stc (V := .pointer (some ⟨b2, 6, none⟩)) rfl rfl (fun hb272 => ?_) ?_
     ·have hl273 := hb272
      try simp only [zx] at hl273
      exact ZZ rfl ⟨rfl, rfl⟩
     refine stc (V := .int .i64 (e.field)) rfl rfl (fun hb274 => ?_) ?_
     ·have hl275 := hb274
      try simp only [zx] at hl275
      exact zg (v := .int .i64 (e.field)) Try.isAgg3 (show _ = (.pointer (some ⟨b2, 6, none⟩) : Value) from (if_pos hb274)) (zf (hS250.blk (i := 0) rfl) rfl) ⟨rfl, rfl⟩
     refine stc (V := .bool (decide (7 < e.field))) rfl rfl (fun hb276 => ?_) ?_
     ·have hl277 := hb276
      try simp only [zx] at hl277
      exact xC (k := .i64) (a := e.field) (b := 7) (show _ = (.int .i64 (e.field) : Value) from (if_pos hb276)) rfl ⟨rfl, rfl⟩
     refine st (zX (b := ((decide (e.typ < 0)) || (decide (7 < e.typ))) || (decide (e.field < 0))) (b' := decide (7 < e.field)) rfl (fun hbp => (show _ = (.bool (decide (7 < e.field)) : Value) from (if_pos hbp))) ?_)
     refine ze ?_
     cases hc278 : (((decide (e.typ < 0)) || (decide (7 < e.typ))) || (decide (e.field < 0))) || (decide (7 < e.field))
     ·skip
      have hc278r := hc278
      try simp only [zx] at hc278
      refine zi rfl ?_
      refine zo ?_
      refine zc ?_
      refine za (by kernel_rfl) (fun _ => ?_)
      refine st (zd (v := .int .i64 (0)) rfl ?_)
      refine ze ?_
      refine zw ?_
      refine zL Try.results52 (show _ = (.int .i64 (0) : Value) from rfl) ?_
      have hS279 : Sep G W Rs w247 := hS250.sel 1 [] (Nat.le_add_left _ _) rfl rfl
      refine ⟨?_, hS279⟩
      rw [xw]
      rw [if_neg (by rw [hc51r]; decide)]
      first | rw [if_pos (ZT (k := k) (by omega) (by omega))] | (rw [if_neg (by rw [ZR (fun i hi => hm i (by omega))]; decide)]; (repeat first | rw [if_pos (by assumption)] | rw [if_neg (by first | (rw [hc56r]; decide) | (rw [hc252r]; decide) | (rw [hc259r]; decide) | (rw [hc278r]; decide) | skip)]))
     ·skip
      have hc278r := hc278
      try simp only [zx] at hc278
      refine zk rfl ?_
      refine zc ?_
      refine za (by kernel_rfl) (fun _ => ?_)
      refine st (zd (v := .int .i64 (8)) rfl ?_)
      refine ze ?_
      refine zw ?_
      refine zL Try.results52 (show _ = (.int .i64 (8) : Value) from rfl) ?_
      have hS280 : Sep G W Rs w247 := hS250.sel 1 [] (Nat.le_add_left _ _) rfl rfl
      refine ⟨?_, hS280⟩
      rw [xw]
      rw [if_neg (by rw [hc51r]; decide)]
      first | rw [if_pos (ZT (k := k) (by omega) (by omega))] | (rw [if_neg (by rw [ZR (fun i hi => hm i (by omega))]; decide)]; (repeat first | rw [if_pos (by assumption)] | rw [if_neg (by first | (rw [hc56r]; decide) | (rw [hc252r]; decide) | (rw [hc259r]; decide) | (rw [hc278r]; decide) | skip)]))
    ·skip
     have hc259r := hc259
     try simp only [zx] at hc259
     refine zk rfl ?_
     refine zc ?_
     refine za (by kernel_rfl) (fun _ => ?_)
     refine st (zd (v := .int .i64 (2)) rfl ?_)
     refine ze ?_
     refine zw ?_
     refine zL Try.results52 (show _ = (.int .i64 (2) : Value) from rfl) ?_
     have hS281 : Sep G W Rs w247 := hS250.sel 1 [] (Nat.le_add_left _ _) rfl rfl
     refine ⟨?_, hS281⟩
     rw [xw]
     rw [if_neg (by rw [hc51r]; decide)]
     first | rw [if_pos (ZT (k := k) (by omega) (by omega))] | (rw [if_neg (by rw [ZR (fun i hi => hm i (by omega))]; decide)]; (repeat first | rw [if_pos (by assumption)] | rw [if_neg (by first | (rw [hc56r]; decide) | (rw [hc252r]; decide) | (rw [hc259r]; decide) | skip)]))
   ·skip
    have hc252r := hc252
    have hc252 := yx hc252
    refine zk rfl ?_
    refine zc ?_
    refine za (by kernel_rfl) (fun _ => ?_)
    refine st (zd (v := .int .i64 (9)) rfl ?_)
    refine ze ?_
    refine zw ?_
    refine zL Try.results52 (show _ = (.int .i64 (9) : Value) from rfl) ?_
    have hS282 : Sep G W Rs w247 := hS250.sel 1 [] (Nat.le_add_left _ _) rfl rfl
    refine ⟨?_, hS282⟩
    rw [xw]
    rw [if_neg (by rw [hc51r]; decide)]
    first | rw [if_pos (ZT (k := k) (by omega) (by omega))] | (rw [if_neg (by rw [ZR (fun i hi => hm i (by omega))]; decide)]; (repeat first | rw [if_pos (by assumption)] | rw [if_neg (by first | (rw [hc56r]; decide) | (rw [hc252r]; decide) | skip)]))
  ·skip
   have hc56r := hc56
   have hc56 := of_decide_eq_true hc56
   refine zk rfl ?_
   refine zo ?_
   refine zc ?_
   refine zt ?_
   refine zc ?_
   refine za (by kernel_rfl) (fun _ => ?_)
   refine st (yB rfl ?_)
   refine st (zg (v := de0) Try.isAgg34 rfl (zf (hS55.blk (i := 0) rfl) rfl) ?_)
   refine st (zb (v := .int .i64 ((k : Nat) : Int)) rfl ?_)
   have hi283 : k < e.deps.length := (by first | omega | (simp only [lens]; omega))
   refine st (zl (k := 1) (i := k) Try.underlying34 Try.sizeOf3 rfl hde0.sl rfl hi283 ?_)
   have hi285 : k < e.deps.length := (by first | omega | (simp only [lens]; omega))
   obtain ⟨hce284, hxe284⟩ := hde0.int hi285
   rw [← zm 0 hi285] at hce284 hxe284
   have hcw286 := hS55.cells hce284 (hde0.foot (ne_of_lt hi285))
   refine st (zg (v := .int .i64 ((e.deps.getD k 0))) Try.isAgg3 rfl (hcw286.get (j := 0) rfl) ?_)
   refine st (zH (k := .i64) (a := (e.deps.getD k 0)) (b := 0) rfl rfl ?_)
   refine ze ?_
   cases hc287 : decide ((e.deps.getD k 0) < 0)
   ·skip
    have hc287r := hc287
    have hc287 := of_decide_eq_false hc287
    refine zi rfl ?_
    refine zo ?_
    refine za (by kernel_rfl) (fun _ => ?_)
    refine st (zb (v := .int .i64 ((k : Nat) : Int)) rfl ?_)
    have hr288 : InR ((k + 1 : Nat) : Int) := by first | omega | (simp only [lens]; omega)
    refine st (zB (r := ((k + 1 : Nat) : Int)) (k := .i64) (a := ((k : Nat) : Int)) (b := 1) rfl rfl (by rw [show (((k : Nat) : Int) + 1 : Int) = ((k + 1 : Nat) : Int) by first | omega | (simp only [lens]; omega)]; exact zy hr288) ?_)
    refine st (zd (v := .int .i64 ((k + 1 : Nat) : Int)) rfl ?_)
    refine ze ?_
    exact ⟨_, by omega, k + 1, _, rfl, zh ⟨rfl, rfl, rfl, trivial⟩, by omega, (yE hm (by omega)), hS55⟩
   ·skip
    have hc287r := hc287
    have hc287 := of_decide_eq_true hc287
    refine zk rfl ?_
    refine zc ?_
    refine za (by kernel_rfl) (fun _ => ?_)
    refine st (zd (v := .int .i64 (1)) rfl ?_)
    refine ze ?_
    refine zw ?_
    refine zL Try.results52 (show _ = (.int .i64 (1) : Value) from rfl) ?_
    have hS289 : Sep G W Rs w52 := hS55.sel 1 [] (Nat.le_add_left _ _) rfl rfl
    refine ⟨?_, hS289⟩
    rw [xw]
    rw [if_neg (by rw [hc51r]; decide)]
    first | rw [if_pos (ZT (k := k) (by omega) (by omega))] | (rw [if_neg (by rw [ZR (fun i hi => hm i (by omega))]; decide)]; (repeat first | rw [if_pos (by assumption)] | rw [if_neg (by first | (rw [hc56r]; decide) | (rw [hc287r]; decide) | skip)]))
 ·skip
  have hc51r := hc51
  try simp only [zx] at hc51
  refine zk rfl ?_
  refine zc ?_
  refine za (by kernel_rfl) (fun _ => ?_)
  refine st (zd (v := .int .i64 (1)) rfl ?_)
  refine ze ?_
  refine zw ?_
  refine zL Try.results52 (show _ = (.int .i64 (1) : Value) from rfl) ?_
  have hS290 : Sep G W Rs w3 := hS4.sel 1 [] (Nat.le_add_left _ _) rfl rfl
  refine ⟨?_, hS290⟩
  rw [xw]
  rw [if_pos hc51r]

end Go.Proofs.Ytmiihhbeclhaoaa
end

section
/- Steps of the proofs of this seat: part R3. -/
set_option maxRecDepth 8000
set_option maxHeartbeats 4000000
namespace Go.Proofs.Ytmiihhbeclhaoaa
open Go.Proofs Go.RowKit

def zG (e : Ev) (L : List Ev) (k : Nat) : Bool := (L.take k).any (ltE e)
def ym (e : Ev) (L : List Ev) (k : Nat) : List Ev := if zG e L k = true then yj e (L.take k) else L.take k
section
variable {e x : Ev} {A B L : List Ev} {k : Nat}
theorem WU : ∀ {A : List Ev}, A.any (ltE e) = true → yj e (A ++ B) = yj e A ++ B
  | x :: l, h => by
    simp only [List.cons_append, yj]
    by_cases hx : ltE e x = true
    · rw [if_pos hx, if_pos hx]; rfl
    · rw [if_neg hx, if_neg hx]
      rw [List.any_cons, Bool.or_eq_true] at h
      rw [WU (h.resolve_left hx)]; rfl
theorem Xx : ∀ {A : List Ev}, A.any (ltE e) = false → yj e A = A ++ [e]
  | [], _ => rfl
  | x :: l, h => by
    rw [List.any_cons, Bool.or_eq_false_iff] at h
    simp only [yj]
    rw [if_neg (by rw [h.1]; decide), Xx h.2]; rfl
theorem XF : ∀ {A : List Ev}, A.any (ltE e) = false → ltE e x = true → yj e (A ++ [x]) = A ++ [e] ++ [x]
  | [], _, hx => by show yj e [x] = _; simp only [yj]; rw [if_pos hx]; rfl
  | y :: l, h, hx => by
    rw [List.any_cons, Bool.or_eq_false_iff] at h
    simp only [List.cons_append, yj]
    rw [if_neg (by rw [h.1]; decide), XF h.2 hx]
theorem YT (hk : k < L.length) : zG e L (k + 1) = (zG e L k || ltE e (L.getD k default)) := by
  unfold zG
  rw [xr hk, List.any_append]; simp
theorem ZF (hk : k < L.length) (h : ((!zG e L k) && ltE e (L.getD k default)) = true) : ym e L (k + 1) = ym e L k ++ [e] ++ [L.getD k default] ∧ zG e L (k + 1) = true := by
  rw [Bool.and_eq_true, Bool.not_eq_true'] at h
  have h2 : zG e L (k + 1) = true := by rw [YT hk, h.2, Bool.or_true]
  refine ⟨?_, h2⟩
  unfold ym
  rw [if_pos h2, if_neg (by rw [h.1]; decide), xr hk, XF h.1 h.2]
theorem Zm (hk : k < L.length) (h : ((!zG e L k) && ltE e (L.getD k default)) = false) : ym e L (k + 1) = ym e L k ++ [L.getD k default] ∧ zG e L (k + 1) = zG e L k := by
  have h2 : zG e L (k + 1) = zG e L k := by
    rw [YT hk]
    revert h; cases zG e L k <;> simp
  refine ⟨?_, h2⟩
  unfold ym
  rw [h2]
  by_cases hb : zG e L k = true
  · rw [if_pos hb, if_pos hb, xr hk, WU hb]
  · rw [if_neg hb, if_neg hb, xr hk]
theorem Xt : (ym e L k).length ≤ k + 1 := by
  unfold ym
  split
  · rw [YY, List.length_take]; omega
  · rw [List.length_take]; omega
theorem Kj (hk : k = L.length) (h : zG e L k = true) : ym e L k = yj e L := by
  unfold ym
  rw [if_pos h, hk, List.take_length]
theorem Uq (hk : k = L.length) (h : zG e L k = false) : ym e L k ++ [e] = yj e L := by
  unfold ym
  unfold zG at h
  unfold zG
  rw [if_neg (by rw [h]; decide), Xx (A := L) (by rw [hk, List.take_length] at h; exact h), hk, List.take_length]
theorem XZ {F : Nat → Prop} {W w : World} {f : Nat → Prop} {cs : List Value} (h : Rep.rd W F cs x) : ((alt F W).el cs x).p w f := Or.inr h
end
theorem Yw {x : Ev} {F : Nat → Prop} {W w : World} {f : Nat → Prop} {v : Value} (h : (RowE (α := Int) own 3 v x.deps).p w f) (ho : x.Ok) : ((alt F W).el (x.cells v) x).p w f := Or.inl ⟨_, rfl, RowE.soft h, ho⟩
theorem Jo {G : Nat → Prop} {W w : World} {Rs : List HP} {b : Nat} {n : Nat} {L : List Ev} {e : Ev} {de0 : Value} (hde0 : RdS W G de0 e.deps) (oe : e.Ok) (hS0 : Sep G W ((RefS b n L) :: Rs) w) (hG : Good n L) (hn : n ≤ 1000) (hL : L.length ≤ 1000000) : Ret Try.prog 22 [.pointer (some ⟨b, 0, none⟩), .agg (e.cells de0).toArray] w (fun r w' => ∃ (L1 : List Ev), r = (.int .i64 ((zU n L e)) : Value) ∧ (L1 = addL n L e) ∧ Sep G W ((RefS b n L1) :: Rs) w') := by
 have hde0s : _ * 8 ≤ _ := hde0.small
 refine zp (args := [.pointer (some ⟨b, 0, none⟩), .agg (e.cells de0).toArray]) Try.func22 rfl rfl ?_
 refine zc ?_
 obtain ⟨G1, hA3, hB4, hS5, hk6⟩ := hS0.lend
 obtain ⟨vl7, hb8, hl9⟩ := RefS.sh hA3
 have hsm10 : L.length * 96 ≤ 140737488355328 := hl9.small
 have hvl9 : (zz n L).length = n := xQ
 refine za (by kernel_rfl) (fun _ => ?_)
 refine st (yg (v := .agg (e.cells de0).toArray) rfl ?_)
 intro w13 b12 hn11
 have hS14 := hS5.new hn11
 refine st (zd (v := .int .i64 (0)) rfl ?_)
 refine ze ?_
 refine zc ?_
 refine zM ((fun pp0 => WF [fun vals wq => Sep G1 w (pp0 :: Rs) wq, fun vals wq => (vals 5 = (.int .i64 ((zI e ((n : Nat) : Int))) : Value)) ∧ Sep G1 w (pp0 :: Rs) wq]) (Blk b12 (e.cells de0).toArray 36)) (AF [Vl 0 (.agg (e.cells de0).toArray), Vl 1 (.pointer (some ⟨b, 0, none⟩)), Vl 2 (.pointer (some ⟨b, 0, none⟩)), Vl 3 (.pointer (some ⟨b, 0, none⟩)), Vl 4 (.int .i64 ((n : Nat) : Int)), fun _ => True, Vl 6 (.int .i64 ((zI e ((n : Nat) : Int))))]) [[], [], [1], [1, 2], [1, 2, 3], [0, 1, 2, 3, 4], [0, 1, 2, 3, 4, 5]] [5] [(0, 0), (0, 0), (0, 0), (0, 0), (0, 0), (0, 0), (1, 1)] (by kernel_rfl) (by kernel_rfl) (by kernel_rfl) rfl (by kernel_rfl) (by kernel_rfl) (fun _ h1 h2 h3 h4 _ => hS14.same h1 h2 h3 h4) ?_ (yc ⟨dA, dA, dA, dA, dA, dT, dA, trivial⟩) ⟨?_, ?_, ?_, ?_, ?_, ?_, ?_, trivial⟩ ?_
 ·intro k vals vals' w hv h
  have e : ∀ j ∈ ([5] : List Nat), vals' j = vals j := hv
  match k, h with
  | 0, h => exact h
  | 1, h => exact (by simpa only [WF, List.getElem?_cons_zero, List.getElem?_cons_succ, e 5 (by decide)] using h)
  | _ + 2, _ => trivial
 ·intro k69 vals w70 h73 h74 hW72 hA71
  obtain rfl : k69 = 0 := Nat.le_antisymm h74 h73
  have hS75 : Sep _ _ _ _ := hW72
  refine obl rfl ?_
  exact zr (k := 10) Try.isAgg36 Try.sizeOf36 rfl rfl (CellsAt.all (hS75.blk (i := 0) rfl)) (fun vals' hv _ => ⟨rfl, hv⟩)
 ·intro k76 vals w77 h80 h81 hW79 hA78
  refine obl rfl ?_
  exact zb (v := .pointer (some ⟨b, 0, none⟩)) rfl (fun vals' hv _ => ⟨rfl, hv⟩)
 ·intro k82 vals w83 h86 h87 hW85 hA84
  have e88 := hA84 1 (by decide)
  refine obl rfl ?_
  exact zn (b := b) (o := 0) e88 (fun vals' hv _ => ⟨rfl, hv⟩)
 ·intro k89 vals w90 h93 h94 hW92 hA91
  have e95 := hA91 2 (by decide)
  refine obl rfl ?_
  exact Zc e95 (fun vals' hv _ => ⟨rfl, hv⟩)
 ·intro k96 vals w97 h100 h101 hW99 hA98
  obtain rfl : k96 = 0 := Nat.le_antisymm h101 h100
  have hS102 : Sep _ _ _ _ := hW99
  have e103 := hA98 3 (by decide)
  refine obl rfl ?_
  exact zg (v := .int .i64 ((n : Nat) : Int)) Try.isAgg3 e103 (zf (hS102.gblk hb8) rfl) (fun vals' hv _ => ⟨rfl, hv⟩)
 ·intro k50 vals w51 h54 h55 hW53 hA52
  obtain rfl : k50 = 0 := Nat.le_antisymm h55 h54
  have hS56 : Sep _ _ _ _ := hW53
  have e57 := hA52 0 (by decide)
  have e58 := hA52 4 (by decide)
  refine obl rfl ?_
  refine (zj (f := 52) (vals := [.agg (e.cells de0).toArray, .int .i64 ((n : Nat) : Int)]) (cap := []) rfl (xc ⟨e57, e58, trivial⟩) Try.call52 (WI (e := e) (n := n) (RdS.base hde0 hB4) oe (by first | omega | (refine ⟨?_, ?_⟩ <;> omega)) hS56) ?_)
  rintro _ w59 ⟨rfl, hS60⟩
  intro vals' hv hv'
  refine ⟨?_, trivial⟩
  show (vals' 5 = (.int .i64 ((zI e ((n : Nat) : Int))) : Value)) ∧ Sep G1 w ((Blk b12 (e.cells de0).toArray 36) :: Rs) w59
  exact ⟨hv, hS60⟩
 ·intro k104 vals w105 h108 h109 hW107 hA106
  obtain rfl : k104 = 1 := Nat.le_antisymm h109 h108
  obtain ⟨he61, hS110⟩ := hW107
  refine obl rfl ?_
  exact zd (v := .int .i64 ((zI e ((n : Nat) : Int)))) he61 (fun vals' hv _ => ⟨rfl, hv⟩)
 intro vals w111 hW112 hA113
 obtain ⟨he61, hS114⟩ := hW112
 have e115 := hA113 6 (by decide)
 refine yb (kv := [(0, .pointer (some ⟨b, 0, none⟩)), (1, .agg (e.cells de0).toArray), (3, .pointer (some ⟨b12, 0, none⟩)), (4, .int .i64 (0)), (5, .int .i64 ((zI e ((n : Nat) : Int))))]) ⟨rfl, rfl, rfl, rfl, (by exact e115), trivial⟩ (fun ρw111 => ?_)
 refine ze ?_
 refine zc ?_
 refine zc ?_
 refine za (by kernel_rfl) (fun _ => ?_)
 refine st (zb (v := .int .i64 ((zI e ((n : Nat) : Int)))) rfl ?_)
 refine st (yH (k := .i64) (a := (zI e ((n : Nat) : Int))) (b := 0) rfl rfl ?_)
 refine ze ?_
 cases hc116 : !decide ((zI e ((n : Nat) : Int)) = 0)
 ·skip
  have hc116r := hc116
  have hc116 := yh hc116
  obtain ⟨⟨ho9, ho9'⟩, ⟨hs9, hl9⟩, hd9, hq9⟩ := yY hc116
  have hv9 : (zz n L).getD e.origin.toNat 0 = ((xE L e.origin.toNat : Nat) : Int) := ZI (by omega)
  have hcl9 := YF (L := L) (o := e.origin.toNat)
  refine zi rfl ?_
  refine zo ?_
  refine zc ?_
  refine za (by kernel_rfl) (fun _ => ?_)
  refine st (zb (v := .pointer (some ⟨b, 0, none⟩)) rfl ?_)
  refine st (zS rfl ?_)
  refine st (zr (k := 2) (cs := [.int .i64 (e.origin), .int .i64 (e.seq)]) Try.isAgg33 Try.sizeOf33 rfl rfl (CellsAt.sub (CellsAt.all (hS114.blk (i := 0) rfl)) 0 (cs2 := [.int .i64 (e.origin), .int .i64 (e.seq)]) rfl) ?_)
  refine st (zj (f := 53) (vals := [.pointer (some ⟨b, 0, none⟩), .agg #[.int .i64 (e.origin), .int .i64 (e.seq)]]) (cap := []) rfl rfl Try.call53 (XW  hA3 oe.origin oe.seq hS114) ?_)
  rintro _ w119 ⟨v117, rfl, hgo118, hS120⟩
  have hr121 := hS120.row (i := 0) rfl
  have hr121s : _ * 8 ≤ _ := hr121.2
  refine st (zb (v := .tuple #[.agg (((zq L (e.origin, e.seq)).getD default).cells v117).toArray, .bool (zq L (e.origin, e.seq)).isSome]) rfl ?_)
  refine st (zV (vs := [.agg (((zq L (e.origin, e.seq)).getD default).cells v117).toArray, .bool ((zq L (e.origin, e.seq)).isSome)]) (i := 0) (v := .agg (((zq L (e.origin, e.seq)).getD default).cells v117).toArray) rfl rfl ?_)
  refine st (zV (vs := [.agg (((zq L (e.origin, e.seq)).getD default).cells v117).toArray, .bool ((zq L (e.origin, e.seq)).isSome)]) (i := 1) (v := .bool ((zq L (e.origin, e.seq)).isSome)) rfl rfl ?_)
  refine st (ye Try.zeroValue36 ?_)
  intro w124 b123 hn122
  have hS125 := hS120.new hn122
  refine stn (zY (v := .agg (((zq L (e.origin, e.seq)).getD default).cells v117).toArray) (c' := (((zq L (e.origin, e.seq)).getD default).cells v117).toArray) Try.sizeOf36 rfl rfl (hS125.blk (i := 0) rfl) (yU ⟨rfl, rfl, rfl, hr121.1.one, rfl, rfl, rfl, rfl, rfl, rfl, trivial⟩) (Nat.le_of_ble_eq_true rfl) rfl ?_)
  intro w126 hp127
  have hS128 := hS125.pt0 hp127
  refine st (zd (v := .bool ((zq L (e.origin, e.seq)).isSome)) rfl ?_)
  refine ze ?_
  refine zc ?_
  refine zc ?_
  refine za (by kernel_rfl) (fun _ => ?_)
  refine st (zb (v := .bool ((zq L (e.origin, e.seq)).isSome)) rfl ?_)
  refine ze ?_
  cases hc129 : (zq L (e.origin, e.seq)).isSome
  ·skip
   have hc129r := hc129
   refine zi rfl ?_
   refine zo ?_
   refine zc ?_
   refine zc ?_
   refine zM ((fun TT pp0 => WF [fun vals wq => Sep G1 w (pp0 :: TT) wq, fun vals wq => ∃ (v165 : Value), (vals 4 = (v165 : Value)) ∧ Sep G1 w ((RowE (α := Int) own 3 v165 (zz n L)) :: pp0 :: TT) wq]) ((RowE (α := Int) own 3 v117 (((zq L (e.origin, e.seq)).getD default).deps)) :: (Blk b12 (e.cells de0).toArray 36) :: Rs) (Blk b123 (((zq L (e.origin, e.seq)).getD default).cells v117).toArray 36)) (AF [Vl 0 (.pointer (some ⟨b12, 0, none⟩)), Vl 1 (.pointer (some ⟨b12, 1, none⟩)), Vl 2 (.int .i64 (e.seq)), Vl 3 (.pointer (some ⟨b, 0, none⟩)), fun _ => True, Vl 5 (.pointer (some ⟨b12, 0, none⟩)), Vl 6 (.pointer (some ⟨b12, 0, none⟩)), Vl 7 (.int .i64 (e.origin)), fun vals => ∀ (v165 : Value), vals 4 = (v165 : Value) → vals 8 = (.pointer (some ⟨sb v165, so v165 + e.origin.toNat * 1, none⟩) : Value), Vl 9 (.int .i64 (((zz n L).getD e.origin.toNat 0))), Vl 10 (.int .i64 (((zz n L).getD e.origin.toNat 0) + 1)), Vl 11 (.bool (!decide (e.seq = (((zz n L).getD e.origin.toNat 0) + 1))))]) [[], [0], [0, 1], [], [3], [], [5], [5, 6], [3, 4, 5, 6, 7], [3, 4, 5, 6, 7, 8], [3, 4, 5, 6, 7, 8, 9], [0, 1, 2, 3, 4, 5, 6, 7, 8, 9, 10]] [4] [(0, 1), (0, 1), (0, 1), (0, 0), (0, 0), (0, 1), (0, 1), (0, 1), (1, 1), (1, 1), (1, 1), (1, 1)] (by kernel_rfl) (by kernel_rfl) (by kernel_rfl) rfl (by kernel_rfl) (by kernel_rfl) (fun _ h1 h2 h3 h4 _ => hS128.same h1 h2 h3 h4) ?_ (yc ⟨dA, dA, dA, dA, dT, dA, dA, dA, fun vals vals' hv h => fun v165 hq0 => (hv 8 (.inl rfl)).trans (h v165 ((hv 4 (.inr (by decide))).symm.trans hq0)), dA, dA, dA, trivial⟩) ⟨?_, ?_, ?_, ?_, ?_, ?_, ?_, ?_, ?_, ?_, ?_, ?_, trivial⟩ ?_
   ·intro k vals vals' w hv h
    have e : ∀ j ∈ ([4] : List Nat), vals' j = vals j := hv
    match k, h with
    | 0, h => exact h
    | 1, h => exact (by simpa only [WF, List.getElem?_cons_zero, List.getElem?_cons_succ, e 4 (by decide)] using h)
    | _ + 2, _ => trivial
   ·intro k229 vals w230 h233 h234 hW232 hA231
    refine obl rfl ?_
    exact zS rfl (fun vals' hv _ => ⟨rfl, hv⟩)
   ·intro k235 vals w236 h239 h240 hW238 hA237
    have e241 := hA237 0 (by decide)
    refine obl rfl ?_
    exact xg e241 (fun vals' hv _ => ⟨rfl, hv⟩)
   ·intro k242 vals w243 h246 h247 hW245 hA244
    have hkk : k242 = 0 ∨ k242 = 1 := by have h1 : 0 ≤ k242 := h246; have h2 : k242 ≤ 1 := h247; omega
    rcases hkk with rfl | rfl
    ·skip
     have hS248 : Sep _ _ _ _ := hW245
     have e249 := hA244 1 (by decide)
     refine obl rfl ?_
     exact zg (v := .int .i64 (e.seq)) Try.isAgg3 e249 (zf (hS248.blk (i := 2) rfl) rfl) (fun vals' hv _ => ⟨rfl, hv⟩)
    ·skip
     obtain ⟨v165, he169, hS250⟩ := hW245
     have e251 := hA244 1 (by decide)
     refine obl rfl ?_
     exact zg (v := .int .i64 (e.seq)) Try.isAgg3 e251 (zf (hS250.blk (i := 3) rfl) rfl) (fun vals' hv _ => ⟨rfl, hv⟩)
   ·intro k252 vals w253 h256 h257 hW255 hA254
    refine obl rfl ?_
    exact zb (v := .pointer (some ⟨b, 0, none⟩)) rfl (fun vals' hv _ => ⟨rfl, hv⟩)
   ·intro k157 vals w158 h161 h162 hW160 hA159
    obtain rfl : k157 = 0 := Nat.le_antisymm h162 h161
    have hS163 : Sep _ _ _ _ := hW160
    have e164 := hA159 3 (by decide)
    refine obl rfl ?_
    refine (zj (f := 54) (vals := [.pointer (some ⟨b, 0, none⟩)]) (cap := []) rfl (xc ⟨e164, trivial⟩) Try.call54 (Kl  hA3 hS163 (hG) (by first | omega | (simp only [lens]; omega))) ?_)
    rintro v165 w166 ⟨_, rfl, hS167⟩
    have hr168 := hS167.row (i := 0) rfl
    have hr168s : _ * 8 ≤ _ := hr168.2
    intro vals' hv hv'
    refine ⟨?_, trivial⟩
    show ∃ (v165 : Value), (vals' 4 = (v165 : Value)) ∧ Sep G1 w ((RowE (α := Int) own 3 v165 (zz n L)) :: (Blk b123 (((zq L (e.origin, e.seq)).getD default).cells v117).toArray 36) :: (RowE (α := Int) own 3 v117 (((zq L (e.origin, e.seq)).getD default).deps)) :: (Blk b12 (e.cells de0).toArray 36) :: Rs) w166
    exact ⟨v165, hv, hS167⟩
   ·intro k258 vals w259 h262 h263 hW261 hA260
    refine obl rfl ?_
    exact zS rfl (fun vals' hv _ => ⟨rfl, hv⟩)
   ·intro k264 vals w265 h268 h269 hW267 hA266
    have e270 := hA266 5 (by decide)
    refine obl rfl ?_
    exact yM e270 (fun vals' hv _ => ⟨rfl, hv⟩)
   ·intro k271 vals w272 h275 h276 hW274 hA273
    have hkk : k271 = 0 ∨ k271 = 1 := by have h1 : 0 ≤ k271 := h275; have h2 : k271 ≤ 1 := h276; omega
    rcases hkk with rfl | rfl
    ·skip
     have hS277 : Sep _ _ _ _ := hW274
     have e278 := hA273 6 (by decide)
     refine obl rfl ?_
     exact zg (v := .int .i64 (e.origin)) Try.isAgg3 e278 (zf (hS277.blk (i := 2) rfl) rfl) (fun vals' hv _ => ⟨rfl, hv⟩)
    ·skip
     obtain ⟨v165, he169, hS279⟩ := hW274
     have e280 := hA273 6 (by decide)
     refine obl rfl ?_
     exact zg (v := .int .i64 (e.origin)) Try.isAgg3 e280 (zf (hS279.blk (i := 3) rfl) rfl) (fun vals' hv _ => ⟨rfl, hv⟩)
   ·intro k281 vals w282 h285 h286 hW284 hA283
    obtain rfl : k281 = 1 := Nat.le_antisymm h286 h285
    obtain ⟨v165, he169, hS287⟩ := hW284
    have e288 := hA283 7 (by decide)
    refine obl rfl ?_
    have hi289 : e.origin.toNat < (zz n L).length := (by first | omega | (simp only [lens]; omega))
    have hr290 := hS287.row (i := 0) rfl
    have hr290s : _ * 8 ≤ _ := hr290.2
    refine yv (k := 1) (i := e.origin) Try.underlying34 Try.sizeOf3 he169 hr290.1 e288 ⟨by omega, by omega⟩ (fun vals' hv hv' => ⟨rfl, ?_⟩)
    intro v165q hq0
    rw [hv' 4 (by decide)] at hq0; cases he169.symm.trans hq0
    exact hv
   ·intro k291 vals w292 h295 h296 hW294 hA293
    obtain rfl : k291 = 1 := Nat.le_antisymm h296 h295
    obtain ⟨v165, he169, hS297⟩ := hW294
    have e298 : vals 8 = (.pointer (some ⟨sb v165, so v165 + e.origin.toNat * 1, none⟩) : Value) := hA293 8 (by decide) v165 he169
    refine obl rfl ?_
    have hi300 : e.origin.toNat < (zz n L).length := (by first | omega | (simp only [lens]; omega))
    obtain ⟨_, _, hce299, rfl, hxe299⟩ := hS297.rowAt (i := 0) (j := e.origin.toNat) rfl hi300
    rw [← zm 0 hi300] at hce299 hxe299
    exact zg (v := .int .i64 (((zz n L).getD e.origin.toNat 0))) Try.isAgg3 e298 (hce299.get (j := 0) rfl) (fun vals' hv _ => ⟨rfl, hv⟩)
   ·intro k301 vals w302 h305 h306 hW304 hA303
    obtain rfl : k301 = 1 := Nat.le_antisymm h306 h305
    obtain ⟨v165, he169, hS307⟩ := hW304
    have e308 := hA303 9 (by decide)
    refine obl rfl ?_
    have hr309 : InR (((zz n L).getD e.origin.toNat 0) + 1) := by omega
    exact zB (r := ((zz n L).getD e.origin.toNat 0) + 1) (k := .i64) (a := ((zz n L).getD e.origin.toNat 0)) (b := 1) e308 rfl (zy hr309) (fun vals' hv _ => ⟨rfl, hv⟩)
   ·intro k310 vals w311 h314 h315 hW313 hA312
    obtain rfl : k310 = 1 := Nat.le_antisymm h315 h314
    obtain ⟨v165, he169, hS316⟩ := hW313
    have e317 := hA312 2 (by decide)
    have e318 := hA312 10 (by decide)
    refine obl rfl ?_
    exact yH (k := .i64) (a := e.seq) (b := ((zz n L).getD e.origin.toNat 0) + 1) e317 e318 (fun vals' hv _ => ⟨rfl, hv⟩)
   intro vals w319 hW320 hA321
   obtain ⟨v165, he169, hS322⟩ := hW320
   have e323 := hA321 11 (by decide)
   refine yb (kv := [(0, .pointer (some ⟨b, 0, none⟩)), (1, .agg (e.cells de0).toArray), (3, .pointer (some ⟨b12, 0, none⟩)), (4, .int .i64 (0)), (5, .int .i64 ((zI e ((n : Nat) : Int)))), (18, .int .i64 ((zI e ((n : Nat) : Int)))), (19, .bool false), (22, .pointer (some ⟨b, 0, none⟩)), (23, .pointer (some ⟨b12, 0, none⟩)), (24, .agg #[.int .i64 (e.origin), .int .i64 (e.seq)]), (6, .pointer (some ⟨b123, 0, none⟩)), (28, .bool false), (40, .bool (!decide (e.seq = (((zz n L).getD e.origin.toNat 0) + 1))))]) ⟨rfl, rfl, rfl, rfl, rfl, rfl, rfl, rfl, rfl, rfl, rfl, rfl, (by exact e323), trivial⟩ (fun ρw319 => ?_)
   refine ze ?_
   cases hc324 : !decide (e.seq = (((zz n L).getD e.origin.toNat 0) + 1))
   ·skip
    have hc324r := hc324
    have hc324 := yh hc324
    refine zi rfl ?_
    refine zo ?_
    refine zc ?_
    refine zc ?_
    refine za (by kernel_rfl) (fun _ => ?_)
    refine st (zd (v := .int .i64 (0)) rfl ?_)
    refine ze ?_
    refine zt ?_
    refine zP (fun mq σ wq => ∃ (k : Nat) (ρ : Env), mq = n - k ∧ σ = zQ ρ [(0, .pointer (some ⟨b, 0, none⟩)), (3, .pointer (some ⟨b12, 0, none⟩)), (8, .int .i64 ((k : Nat) : Int))] ∧ (k ≤ n) ∧ (∀ i, i < k → yN L e i = true) ∧ Sep G1 w ((RowE (α := Int) own 3 v165 (zz n L)) :: (Blk b123 (((zq L (e.origin, e.seq)).getD default).cells v117).toArray 36) :: (RowE (α := Int) own 3 v117 (((zq L (e.origin, e.seq)).getD default).deps)) :: (Blk b12 (e.cells de0).toArray 36) :: Rs) wq) ⟨0, _, rfl, zh ⟨rfl, rfl, rfl, trivial⟩, Nat.zero_le _, (fun i h => absurd h (Nat.not_lt_zero i)), hS322⟩ ?_
    rintro m326 σ327 w325 ⟨k, ρl1, rfl, rfl, hkk, hm, hS328⟩
    refine zc ?_
    refine zc ?_
    refine za (by kernel_rfl) (fun _ => ?_)
    refine st (zb (v := .int .i64 ((k : Nat) : Int)) rfl ?_)
    refine st (zb (v := .pointer (some ⟨b, 0, none⟩)) rfl ?_)
    refine st (zn (b := b) (o := 0) rfl ?_)
    refine st (Zc rfl ?_)
    refine st (zg (v := .int .i64 ((n : Nat) : Int)) Try.isAgg3 rfl (zf (hS328.gblk hb8) rfl) ?_)
    refine st (zH (k := .i64) (a := ((k : Nat) : Int)) (b := ((n : Nat) : Int)) rfl rfl ?_)
    refine ze ?_
    cases hc329 : decide (((k : Nat) : Int) < ((n : Nat) : Int))
    ·skip
     have hc329r := hc329
     have hc329 := of_decide_eq_false hc329
     refine zi rfl ?_
     refine zO ?_
     refine zF ?_
     refine zc ?_
     refine za (by kernel_rfl) (fun _ => ?_)
     refine st (zd (v := (.slice none 0 0)) rfl ?_)
     refine ze ?_
     refine zc ?_
     refine za (by kernel_rfl) (fun _ => ?_)
     refine st (zd (v := .bool false) rfl ?_)
     refine ze ?_
     refine zc ?_
     refine zc ?_
     have hS330 := hk6 _ _ hS328
     obtain ⟨vl331, hS332⟩ := RefS.open hS330
     have hS332t : Sep G W ((Blk b #[.int .i64 ((n : Nat) : Int), vl331] 78) :: (RowE (α := Ev) own 36 vl331 L) :: (RowE (α := Int) own 3 v165 (zz n L)) :: (Blk b123 (((zq L (e.origin, e.seq)).getD default).cells v117).toArray 36) :: (RowE (α := Int) own 3 v117 (((zq L (e.origin, e.seq)).getD default).deps)) :: (Blk b12 (e.cells de0).toArray 36) :: Rs) w325 := hS332
     have hr333 := hS332t.row (i := 1) rfl
     have hr333s : _ * 96 ≤ _ := hr333.2
     have hS334 := hS332t.mv1
     obtain ⟨F335, G336, hF337, hFG338, hB339, hS340, hk341⟩ := hS334.lendA
     have hrd342 := RdS.base hF337 hFG338
     have hsm343 : L.length * 96 ≤ 140737488355328 := hrd342.small
     refine za (by kernel_rfl) (fun _ => ?_)
     refine st (zd (v := .int .i64 (0)) rfl ?_)
     refine ze ?_
     refine zt ?_
     have hS344 : Sep G336 w325 ((RowE (α := Ev) (alt F335 w325) 36 (.slice none 0 0) ([] : List Ev)) :: (Blk b #[.int .i64 ((n : Nat) : Int), vl331] 78) :: (RowE (α := Int) own 3 v165 (zz n L)) :: (Blk b123 (((zq L (e.origin, e.seq)).getD default).cells v117).toArray 36) :: (RowE (α := Int) own 3 v117 (((zq L (e.origin, e.seq)).getD default).deps)) :: (Blk b12 (e.cells de0).toArray 36) :: Rs) w325 := hS340.rowNil (alt F335 w325) 36
     refine zP (fun mq σ wq => ∃ (k : Nat) (vo : Value) (ρ : Env), mq = L.length - k ∧ σ = zQ ρ [(0, .pointer (some ⟨b, 0, none⟩)), (3, .pointer (some ⟨b12, 0, none⟩)), (10, .bool ((zG e L k))), (11, .int .i64 ((k : Nat) : Int)), (9, vo)] ∧ (k ≤ L.length) ∧ Sep G336 w325 ((RowE (α := Ev) (alt F335 w325) 36 vo (ym e L k)) :: (Blk b #[.int .i64 ((n : Nat) : Int), vl331] 78) :: (RowE (α := Int) own 3 v165 (zz n L)) :: (Blk b123 (((zq L (e.origin, e.seq)).getD default).cells v117).toArray 36) :: (RowE (α := Int) own 3 v117 (((zq L (e.origin, e.seq)).getD default).deps)) :: (Blk b12 (e.cells de0).toArray 36) :: Rs) wq) ⟨0, (.slice none 0 0), _, rfl, zh ⟨rfl, rfl, rfl, rfl, rfl, trivial⟩, Nat.zero_le _, hS344⟩ ?_
     rintro m346 σ347 w345 ⟨k, vo, ρl2, rfl, rfl, hkk, hS348⟩
     have hr349 := hS348.row (i := 0) rfl
     have hr349s : _ * 96 ≤ _ := hr349.2
     have hlk9 := Xt (e := e) (L := L) (k := k)
     refine zc ?_
     refine zc ?_
     refine za (by kernel_rfl) (fun _ => ?_)
     refine st (zb (v := .int .i64 ((k : Nat) : Int)) rfl ?_)
     refine st (zb (v := .pointer (some ⟨b, 0, none⟩)) rfl ?_)
     refine st (zn (b := b) (o := 0) rfl ?_)
     refine st (yI rfl ?_)
     refine st (zg (v := vl331) Try.isAgg22 rfl (zf (hS348.blk (i := 1) rfl) rfl) ?_)
     refine st (zJ (n := L.length) Try.underlying22 rfl hrd342.sl ?_)
     refine st (zH (k := .i64) (a := ((k : Nat) : Int)) (b := ((L.length : Nat) : Int)) rfl rfl ?_)
     refine ze ?_
     cases hc350 : decide (((k : Nat) : Int) < ((L.length : Nat) : Int))
     ·skip
      have hc350r := hc350
      have hc350 := of_decide_eq_false hc350
      refine zi rfl ?_
      refine zO ?_
      refine zF ?_
      refine zc ?_
      refine zc ?_
      refine za (by kernel_rfl) (fun _ => ?_)
      refine st (zb (v := .bool ((zG e L k))) rfl ?_)
      refine st (yA (a := (zG e L k)) rfl ?_)
      refine ze ?_
      cases hc351 : !(zG e L k)
      ·skip
       have hc351r := hc351
       try simp only [zx] at hc351
       refine zi rfl ?_
       refine zo ?_
       refine zc ?_
       have hS352 : Sep G W ((RowE (α := Ev) own 36 vo (ym e L k)) :: (Blk b #[.int .i64 ((n : Nat) : Int), vl331] 78) :: (RowE (α := Int) own 3 v165 (zz n L)) :: (Blk b123 (((zq L (e.origin, e.seq)).getD default).cells v117).toArray 36) :: (RowE (α := Int) own 3 v117 (((zq L (e.origin, e.seq)).getD default).deps)) :: (Blk b12 (e.cells de0).toArray 36) :: Rs) w345 := hk341 _ _ _ _ _ hS348
       have hr353 := hS352.row (i := 0) rfl
       have hr353s : _ * 96 ≤ _ := hr353.2
       rw [Kj (by omega) (by simpa using hc351)] at hS352
       have hS354 : Sep G W ((RowE (α := Ev) own 36 vo (yj e L)) :: (Blk b #[.int .i64 ((n : Nat) : Int), vl331] 78) :: (RowE (α := Int) own 3 v165 (zz n L)) :: (Blk b123 (((zq L (e.origin, e.seq)).getD default).cells v117).toArray 36) :: (RowE (α := Int) own 3 v117 (((zq L (e.origin, e.seq)).getD default).deps)) :: (Blk b12 (e.cells de0).toArray 36) :: Rs) w345 := hS352
       have hr355 := hS354.row (i := 0) rfl
       have hr355s : _ * 96 ≤ _ := hr355.2
       refine za (by kernel_rfl) (fun _ => ?_)
       refine st (zb (v := .pointer (some ⟨b, 0, none⟩)) rfl ?_)
       refine st (zb (v := vo) rfl ?_)
       refine st (zn (b := b) (o := 0) rfl ?_)
       refine st (yI rfl ?_)
       refine stn (yd (v := vo) (c := [.int .i64 ((n : Nat) : Int), vl331]) (c' := [.int .i64 ((n : Nat) : Int), vo]) Try.sizeOf22 rfl rfl (hS354.blk (i := 1) rfl) hr355.1.one rfl rfl ?_)
       intro w356 hp357
       have hS358 := hS354.pt1 hp357
       refine ze ?_
       refine zc ?_
       refine za (by kernel_rfl) (fun _ => ?_)
       refine st (zd (v := .int .i64 (0)) rfl ?_)
       refine ze ?_
       refine zw ?_
       refine zL Try.results22 (show _ = (.int .i64 (0) : Value) from rfl) ?_
       have hS359 := hS358.mv1
       have hS360 : Sep G W ((RefS b n (yj e L)) :: (RowE (α := Int) own 3 v165 (zz n L)) :: (Blk b123 (((zq L (e.origin, e.seq)).getD default).cells v117).toArray 36) :: (RowE (α := Int) own 3 v117 (((zq L (e.origin, e.seq)).getD default).deps)) :: (Blk b12 (e.cells de0).toArray 36) :: Rs) w356 := RefS.close (n := n) (L := (yj e L)) hS359
       have hS361 : Sep G W ((RefS b n (yj e L)) :: Rs) w356 := hS360.sel 5 [0] (Nat.le_add_left _ _) rfl rfl
       refine ⟨(yj e L), ?_, ?_, hS361⟩
       · rw [Zj hc116 hc129 (by rw [hv9] at hc324; exact hc324) (fun i hi => hm i (by omega))]
       · rw [xF (Zj hc116 hc129 (by rw [hv9] at hc324; exact hc324) (fun i hi => hm i (by omega)))]
      ·skip
       have hc351r := hc351
       try simp only [zx] at hc351
       refine zk rfl ?_
       refine za (by kernel_rfl) (fun _ => ?_)
       refine st (zb (v := vo) rfl ?_)
       refine st (zr (k := 10) Try.isAgg36 Try.sizeOf36 rfl rfl (CellsAt.all (hS348.blk (i := 5) rfl)) ?_)
       refine st (zj (f := 23) (vals := [.agg (e.cells de0).toArray]) (cap := []) rfl rfl Try.call23 (yJ (e := e) (RdS.base hde0 hB339) oe hS348) ?_)
       rintro _ w363 ⟨v362, rfl, hS364⟩
       have hr365 := hS364.row (i := 0) rfl
       have hr365s : _ * 8 ≤ _ := hr365.2
       refine st (zD (k := 10) (parts' := [(0, .agg (e.cells v362).toArray)]) (c := (e.cells v362).toArray) Try.underlying22 Try.sizeOf36 Try.zeroValue36 (by decide) rfl (by kernel_rfl) ?_)
       intro w368 b367 hn366
       have hS369 := hS364.new hn366
       have hbk373 := hS369.blk (i := 0) rfl
       have hS374 : Sep G336 w325 ((RowE (α := Ev) (alt F335 w325) 36 vo (ym e L k)) :: (RowE (α := Int) own 3 v362 e.deps) :: (Blk b #[.int .i64 ((n : Nat) : Int), vl331] 78) :: (RowE (α := Int) own 3 v165 (zz n L)) :: (Blk b123 (((zq L (e.origin, e.seq)).getD default).cells v117).toArray 36) :: (RowE (α := Int) own 3 v117 (((zq L (e.origin, e.seq)).getD default).deps)) :: (Blk b12 (e.cells de0).toArray 36) :: Rs) w368 := hS369.sel 8 [2, 1, 3, 4, 5, 6, 7] (Nat.le_add_left _ _) rfl rfl
       refine st (zZ (src := (alt F335 w325)) (bytes := 96) (x1 := e) hS374 xZ rfl rfl hbk373 (fun _ _ hN => Yw hN oe) (by first | omega | (simp only [List.length_append, List.length_cons, List.length_nil, List.length_take, List.length_drop]; omega)) rfl ?_)
       intro v371 w370 hS372
       have hr375 := hS372.row (i := 0) rfl
       have hr375s : _ * 96 ≤ _ := hr375.2
       refine st (zd (v := v371) rfl ?_)
       refine ze ?_
       refine zc ?_
       have hS376 : Sep G W ((RowE (α := Ev) own 36 v371 ((ym e L k) ++ [e])) :: (Blk b #[.int .i64 ((n : Nat) : Int), vl331] 78) :: (RowE (α := Int) own 3 v165 (zz n L)) :: (Blk b123 (((zq L (e.origin, e.seq)).getD default).cells v117).toArray 36) :: (RowE (α := Int) own 3 v117 (((zq L (e.origin, e.seq)).getD default).deps)) :: (Blk b12 (e.cells de0).toArray 36) :: Rs) w370 := hk341 _ _ _ _ _ hS372
       have hr377 := hS376.row (i := 0) rfl
       have hr377s : _ * 96 ≤ _ := hr377.2
       rw [Uq (by omega) (by simpa using hc351)] at hS376
       have hS378 : Sep G W ((RowE (α := Ev) own 36 v371 (yj e L)) :: (Blk b #[.int .i64 ((n : Nat) : Int), vl331] 78) :: (RowE (α := Int) own 3 v165 (zz n L)) :: (Blk b123 (((zq L (e.origin, e.seq)).getD default).cells v117).toArray 36) :: (RowE (α := Int) own 3 v117 (((zq L (e.origin, e.seq)).getD default).deps)) :: (Blk b12 (e.cells de0).toArray 36) :: Rs) w370 := hS376
       have hr379 := hS378.row (i := 0) rfl
       have hr379s : _ * 96 ≤ _ := hr379.2
       refine za (by kernel_rfl) (fun _ => ?_)
       refine st (zb (v := .pointer (some ⟨b, 0, none⟩)) rfl ?_)
       refine st (zb (v := v371) rfl ?_)
       refine st (zn (b := b) (o := 0) rfl ?_)
       refine st (yI rfl ?_)
       refine stn (yd (v := v371) (c := [.int .i64 ((n : Nat) : Int), vl331]) (c' := [.int .i64 ((n : Nat) : Int), v371]) Try.sizeOf22 rfl rfl (hS378.blk (i := 1) rfl) hr379.1.one rfl rfl ?_)
       intro w380 hp381
       have hS382 := hS378.pt1 hp381
       refine ze ?_
       refine zc ?_
       refine za (by kernel_rfl) (fun _ => ?_)
       refine st (zd (v := .int .i64 (0)) rfl ?_)
       refine ze ?_
       refine zw ?_
       refine zL Try.results22 (show _ = (.int .i64 (0) : Value) from rfl) ?_
       have hS383 := hS382.mv1
       have hS384 : Sep G W ((RefS b n (yj e L)) :: (RowE (α := Int) own 3 v165 (zz n L)) :: (Blk b123 (((zq L (e.origin, e.seq)).getD default).cells v117).toArray 36) :: (RowE (α := Int) own 3 v117 (((zq L (e.origin, e.seq)).getD default).deps)) :: (Blk b12 (e.cells de0).toArray 36) :: Rs) w380 := RefS.close (n := n) (L := (yj e L)) hS383
       have hS385 : Sep G W ((RefS b n (yj e L)) :: Rs) w380 := hS384.sel 5 [0] (Nat.le_add_left _ _) rfl rfl
       refine ⟨(yj e L), ?_, ?_, hS385⟩
       · rw [Zj hc116 hc129 (by rw [hv9] at hc324; exact hc324) (fun i hi => hm i (by omega))]
       · rw [xF (Zj hc116 hc129 (by rw [hv9] at hc324; exact hc324) (fun i hi => hm i (by omega)))]
     ·skip
      have hc350r := hc350
      have hc350 := of_decide_eq_true hc350
      refine zk rfl ?_
      refine zo ?_
      refine zc ?_
      refine zt ?_
      refine zc ?_
      refine zc ?_
      refine zM ((fun TT pp0 => WF [fun vals wq => Sep G336 w325 (pp0 :: TT) wq, fun vals wq => (vals 11 = (if (!(zG e L k)) = true then (.bool ((ltE e (L.getD k default))) : Value) else undef)) ∧ Sep G336 w325 (pp0 :: TT) wq]) ((Blk b #[.int .i64 ((n : Nat) : Int), vl331] 78) :: (RowE (α := Int) own 3 v165 (zz n L)) :: (Blk b123 (((zq L (e.origin, e.seq)).getD default).cells v117).toArray 36) :: (RowE (α := Int) own 3 v117 (((zq L (e.origin, e.seq)).getD default).deps)) :: (Blk b12 (e.cells de0).toArray 36) :: Rs) (RowE (α := Ev) (alt F335 w325) 36 vo (ym e L k))) (AF [Vl 0 (.bool ((zG e L k))), Vl 1 (.bool (!(zG e L k))), Vl 2 (.bool (!(zG e L k))), Vl 3 (if (!(zG e L k)) = true then .agg (e.cells de0).toArray else undef), Vl 4 (if (!(zG e L k)) = true then .pointer (some ⟨b, 0, none⟩) else undef), Vl 5 (if (!(zG e L k)) = true then .pointer (some ⟨b, 0, none⟩) else undef), Vl 6 (if (!(zG e L k)) = true then .pointer (some ⟨b, 1, none⟩) else undef), Vl 7 (if (!(zG e L k)) = true then vl331 else undef), Vl 8 (if (!(zG e L k)) = true then .int .i64 ((k : Nat) : Int) else undef), Vl 9 (if (!(zG e L k)) = true then .pointer (some ⟨sb vl331, so vl331 + k * 10, none⟩) else undef), Vl 10 (if (!(zG e L k)) = true then .agg ((L.getD k default).cells (zT w325 (sb vl331) (so vl331 + k * 10 + 3))).toArray else undef), fun _ => True, Vl 12 (.bool ((!(zG e L k)) && (ltE e (L.getD k default))))]) [[], [0], [0, 1], [0, 1, 2], [0, 1, 2], [0, 1, 2, 4], [0, 1, 2, 4, 5], [0, 1, 2, 4, 5, 6], [0, 1, 2], [0, 1, 2, 4, 5, 6, 7, 8], [0, 1, 2, 4, 5, 6, 7, 8, 9], [0, 1, 2, 3, 4, 5, 6, 7, 8, 9, 10], [0, 1, 2, 3, 4, 5, 6, 7, 8, 9, 10, 11]] [11] [(0, 0), (0, 0), (0, 0), (0, 0), (0, 0), (0, 0), (0, 0), (0, 0), (0, 0), (0, 0), (0, 0), (0, 0), (1, 1)] (by kernel_rfl) (by kernel_rfl) (by kernel_rfl) rfl (by kernel_rfl) (by kernel_rfl) (fun _ h1 h2 h3 h4 _ => hS348.same h1 h2 h3 h4) ?_ (yc ⟨dA, dA, dA, dA, dA, dA, dA, dA, dA, dA, dA, dT, dA, trivial⟩) ⟨?_, ?_, ?_, ?_, ?_, ?_, ?_, ?_, ?_, ?_, ?_, ?_, ?_, trivial⟩ ?_
      ·intro k vals vals' w hv h
       have e : ∀ j ∈ ([11] : List Nat), vals' j = vals j := hv
       match k, h with
       | 0, h => exact h
       | 1, h => exact (by simpa only [WF, List.getElem?_cons_zero, List.getElem?_cons_succ, e 11 (by decide)] using h)
       | _ + 2, _ => trivial
      ·intro k520 vals w521 h524 h525 hW523 hA522
       refine obl rfl ?_
       exact zb (v := .bool ((zG e L k))) rfl (fun vals' hv _ => ⟨rfl, hv⟩)
      ·intro k526 vals w527 h530 h531 hW529 hA528
       have e532 := hA528 0 (by decide)
       refine obl rfl ?_
       exact yA (a := (zG e L k)) e532 (fun vals' hv _ => ⟨rfl, hv⟩)
      ·intro k533 vals w534 h537 h538 hW536 hA535
       have e539 := hA535 1 (by decide)
       refine obl rfl ?_
       exact zb (v := .bool (!(zG e L k))) e539 (fun vals' hv _ => ⟨rfl, hv⟩)
      ·intro k540 vals w541 h544 h545 hW543 hA542
       obtain rfl : k540 = 0 := Nat.le_antisymm h545 h544
       have hS546 : Sep _ _ _ _ := hW543
       have e547 := hA542 2 (by decide)
       refine yT rfl rfl e547 (fun hb548 => ?_) (fun hb548 => fun vals' hv _ => ⟨trivial, hv.trans (if_neg hb548).symm⟩)
       have hl549 := hb548
       try simp only [zx] at hl549
       exact zr (k := 10) Try.isAgg36 Try.sizeOf36 rfl rfl (CellsAt.all (hS546.blk (i := 5) rfl)) (fun vals' hv _ => ⟨rfl, hv.trans (if_pos hb548).symm⟩)
      ·intro k550 vals w551 h554 h555 hW553 hA552
       have e556 := hA552 2 (by decide)
       refine yT rfl rfl e556 (fun hb557 => ?_) (fun hb557 => fun vals' hv _ => ⟨trivial, hv.trans (if_neg hb557).symm⟩)
       have hl558 := hb557
       try simp only [zx] at hl558
       exact zb (v := .pointer (some ⟨b, 0, none⟩)) rfl (fun vals' hv _ => ⟨rfl, hv.trans (if_pos hb557).symm⟩)
      ·intro k559 vals w560 h563 h564 hW562 hA561
       have e565 := hA561 2 (by decide)
       have e566 : vals 4 = (if (!(zG e L k)) = true then (.pointer (some ⟨b, 0, none⟩) : Value) else undef) := hA561 4 (by decide)
       refine yT rfl rfl e565 (fun hb567 => ?_) (fun hb567 => fun vals' hv _ => ⟨trivial, hv.trans (if_neg hb567).symm⟩)
       have hl568 := hb567
       try simp only [zx] at hl568
       exact zn (b := b) (o := 0) (show _ = (.pointer (some ⟨b, 0, none⟩) : Value) from (Eq.trans e566 (if_pos hb567))) (fun vals' hv _ => ⟨rfl, hv.trans (if_pos hb567).symm⟩)
      ·intro k569 vals w570 h573 h574 hW572 hA571
       have e575 := hA571 2 (by decide)
       have e576 : vals 5 = (if (!(zG e L k)) = true then (.pointer (some ⟨b, 0, none⟩) : Value) else undef) := hA571 5 (by decide)
       refine yT rfl rfl e575 (fun hb577 => ?_) (fun hb577 => fun vals' hv _ => ⟨trivial, hv.trans (if_neg hb577).symm⟩)
       have hl578 := hb577
       try simp only [zx] at hl578
       exact yI (show _ = (.pointer (some ⟨b, 0, none⟩) : Value) from (Eq.trans e576 (if_pos hb577))) (fun vals' hv _ => ⟨rfl, hv.trans (if_pos hb577).symm⟩)
      ·intro k579 vals w580 h583 h584 hW582 hA581
       obtain rfl : k579 = 0 := Nat.le_antisymm h584 h583
       have hS585 : Sep _ _ _ _ := hW582
       have e586 := hA581 2 (by decide)
       have e587 : vals 6 = (if (!(zG e L k)) = true then (.pointer (some ⟨b, 1, none⟩) : Value) else undef) := hA581 6 (by decide)
       refine yT rfl rfl e586 (fun hb588 => ?_) (fun hb588 => fun vals' hv _ => ⟨trivial, hv.trans (if_neg hb588).symm⟩)
       have hl589 := hb588
       try simp only [zx] at hl589
       exact zg (v := vl331) Try.isAgg22 (show _ = (.pointer (some ⟨b, 1, none⟩) : Value) from (Eq.trans e587 (if_pos hb588))) (zf (hS585.blk (i := 1) rfl) rfl) (fun vals' hv _ => ⟨rfl, hv.trans (if_pos hb588).symm⟩)
      ·intro k590 vals w591 h594 h595 hW593 hA592
       have e596 := hA592 2 (by decide)
       refine yT rfl rfl e596 (fun hb597 => ?_) (fun hb597 => fun vals' hv _ => ⟨trivial, hv.trans (if_neg hb597).symm⟩)
       have hl598 := hb597
       try simp only [zx] at hl598
       exact zb (v := .int .i64 ((k : Nat) : Int)) rfl (fun vals' hv _ => ⟨rfl, hv.trans (if_pos hb597).symm⟩)
      ·intro k599 vals w600 h603 h604 hW602 hA601
       obtain rfl : k599 = 0 := Nat.le_antisymm h604 h603
       have hS605 : Sep _ _ _ _ := hW602
       have e606 := hA601 2 (by decide)
       have e607 : vals 7 = (if (!(zG e L k)) = true then (vl331 : Value) else undef) := hA601 7 (by decide)
       have e608 : vals 8 = (if (!(zG e L k)) = true then (.int .i64 ((k : Nat) : Int) : Value) else undef) := hA601 8 (by decide)
       refine yT rfl rfl e606 (fun hb609 => ?_) (fun hb609 => fun vals' hv _ => ⟨trivial, hv.trans (if_neg hb609).symm⟩)
       have hl610 := hb609
       try simp only [zx] at hl610
       have hi611 : k < L.length := (by first | omega | (simp only [lens]; omega))
       exact zl (k := 10) (i := k) Try.underlying22 Try.sizeOf36 (show _ = (vl331 : Value) from (Eq.trans e607 (if_pos hb609))) hrd342.sl (show _ = (.int .i64 ((k : Nat) : Int) : Value) from (Eq.trans e608 (if_pos hb609))) hi611 (fun vals' hv _ => ⟨rfl, hv.trans (if_pos hb609).symm⟩)
      ·intro k612 vals w613 h616 h617 hW615 hA614
       obtain rfl : k612 = 0 := Nat.le_antisymm h617 h616
       have hS618 : Sep _ _ _ _ := hW615
       have e619 := hA614 2 (by decide)
       have e620 : vals 9 = (if (!(zG e L k)) = true then (.pointer (some ⟨sb vl331, so vl331 + k * 10, none⟩) : Value) else undef) := hA614 9 (by decide)
       refine yT rfl rfl e619 (fun hb621 => ?_) (fun hb621 => fun vals' hv _ => ⟨trivial, hv.trans (if_neg hb621).symm⟩)
       have hl622 := hb621
       try simp only [zx] at hl622
       have hi624 : k < L.length := (by first | omega | (simp only [lens]; omega))
       obtain ⟨hce623, hde623_0, hoke623⟩ := hrd342.ev hi624
       rw [← zm default hi624] at hce623 hde623_0 hoke623
       have hsm625 : ((L.getD k default).deps).length * 8 ≤ 140737488355328 := hde623_0.small
       have hcw626 := hS618.cells hce623 (hrd342.foot (ne_of_lt hi624))
       exact zr (k := 10) Try.isAgg36 Try.sizeOf36 rfl (show _ = (.pointer (some ⟨sb vl331, so vl331 + k * 10, none⟩) : Value) from (Eq.trans e620 (if_pos hb621))) hcw626 (fun vals' hv _ => ⟨rfl, hv.trans (if_pos hb621).symm⟩)
      ·intro k493 vals w494 h497 h498 hW496 hA495
       obtain rfl : k493 = 0 := Nat.le_antisymm h498 h497
       have hS499 : Sep _ _ _ _ := hW496
       have e500 := hA495 2 (by decide)
       have e501 : vals 3 = (if (!(zG e L k)) = true then (.agg (e.cells de0).toArray : Value) else undef) := hA495 3 (by decide)
       have e502 : vals 10 = (if (!(zG e L k)) = true then (.agg ((L.getD k default).cells (zT w325 (sb vl331) (so vl331 + k * 10 + 3))).toArray : Value) else undef) := hA495 10 (by decide)
       refine yT rfl rfl e500 (fun hb503 => ?_) (fun hb503 vals' hv hv' => ?_)
       ·skip
        have hl504 := hb503
        try simp only [zx] at hl504
        have hi506 : k < L.length := (by first | omega | (simp only [lens]; omega))
        obtain ⟨hce505, hde505_0, hoke505⟩ := hrd342.ev hi506
        rw [← zm default hi506] at hce505 hde505_0 hoke505
        have hsm507 : ((L.getD k default).deps).length * 8 ≤ 140737488355328 := hde505_0.small
        have hcw508 := hS499.cells hce505 (hrd342.foot (ne_of_lt hi506))
        refine (zj (f := 56) (vals := [.agg (e.cells de0).toArray, .agg ((L.getD k default).cells (zT w325 (sb vl331) (so vl331 + k * 10 + 3))).toArray]) (cap := []) rfl (xc ⟨(show _ = (.agg (e.cells de0).toArray : Value) from (Eq.trans e501 (if_pos hb503))), (show _ = (.agg ((L.getD k default).cells (zT w325 (sb vl331) (so vl331 + k * 10 + 3))).toArray : Value) from (Eq.trans e502 (if_pos hb503))), trivial⟩) Try.call56 (XS (a := e) (b := (L.getD k default)) (RdS.base hde0 hB339) oe hde505_0 hoke505 hS499) ?_)
        rintro _ w509 ⟨rfl, hS510⟩
        intro vals' hv hv'
        refine ⟨?_, trivial⟩
        show (vals' 11 = (if (!(zG e L k)) = true then (.bool ((ltE e (L.getD k default))) : Value) else undef)) ∧ Sep G336 w325 ((RowE (α := Ev) (alt F335 w325) 36 vo (ym e L k)) :: (Blk b #[.int .i64 ((n : Nat) : Int), vl331] 78) :: (RowE (α := Int) own 3 v165 (zz n L)) :: (Blk b123 (((zq L (e.origin, e.seq)).getD default).cells v117).toArray 36) :: (RowE (α := Int) own 3 v117 (((zq L (e.origin, e.seq)).getD default).deps)) :: (Blk b12 (e.cells de0).toArray 36) :: Rs) w509
        exact ⟨(hv.trans (if_pos hb503).symm), hS510⟩
       ·skip
        refine ⟨?_, trivial⟩
        show (vals' 11 = (if (!(zG e L k)) = true then (.bool ((ltE e (L.getD k default))) : Value) else undef)) ∧ Sep G336 w325 ((RowE (α := Ev) (alt F335 w325) 36 vo (ym e L k)) :: (Blk b #[.int .i64 ((n : Nat) : Int), vl331] 78) :: (RowE (α := Int) own 3 v165 (zz n L)) :: (Blk b123 (((zq L (e.origin, e.seq)).getD default).cells v117).toArray 36) :: (RowE (α := Int) own 3 v117 (((zq L (e.origin, e.seq)).getD default).deps)) :: (Blk b12 (e.cells de0).toArray 36) :: Rs) w494
        exact ⟨(hv.trans (if_neg hb503).symm), hS499⟩
      ·intro k627 vals w628 h631 h632 hW630 hA629
       obtain rfl : k627 = 1 := Nat.le_antisymm h632 h631
       obtain ⟨he511, hS633⟩ := hW630
       have e634 := hA629 2 (by decide)
       refine obl rfl ?_
       exact yp (b := !(zG e L k)) (b' := (ltE e (L.getD k default))) e634 (fun hbp => (show _ = (.bool ((ltE e (L.getD k default))) : Value) from (Eq.trans he511 (if_pos hbp)))) (fun vals' hv _ => ⟨rfl, hv⟩)
      intro vals w635 hW636 hA637
      obtain ⟨he511, hS638⟩ := hW636
      have e639 := hA637 12 (by decide)
      refine yb (kv := [(0, .pointer (some ⟨b, 0, none⟩)), (3, .pointer (some ⟨b12, 0, none⟩)), (10, .bool ((zG e L k))), (11, .int .i64 ((k : Nat) : Int)), (9, vo), (54, .int .i64 ((k : Nat) : Int)), (55, .pointer (some ⟨b, 0, none⟩)), (56, .pointer (some ⟨b, 0, none⟩)), (57, .pointer (some ⟨b, 1, none⟩)), (58, vl331), (59, .int .i64 ((L.length : Nat) : Int)), (60, .bool true), (75, .bool ((!(zG e L k)) && (ltE e (L.getD k default))))]) ⟨rfl, rfl, rfl, rfl, rfl, rfl, rfl, rfl, rfl, rfl, rfl, rfl, (by exact e639), trivial⟩ (fun ρw635 => ?_)
      refine ze ?_
      cases hc640 : (!(zG e L k)) && (ltE e (L.getD k default))
      ·skip
       have hc640r := hc640
       try simp only [zx] at hc640
       refine zi rfl ?_
       refine zo ?_
       refine za (by kernel_rfl) (fun _ => ?_)
       refine st (zb (v := vo) rfl ?_)
       refine st (zb (v := .pointer (some ⟨b, 0, none⟩)) rfl ?_)
       refine st (zn (b := b) (o := 0) rfl ?_)
       refine st (yI rfl ?_)
       refine st (zg (v := vl331) Try.isAgg22 rfl (zf (hS638.blk (i := 1) rfl) rfl) ?_)
       refine st (zb (v := .int .i64 ((k : Nat) : Int)) rfl ?_)
       have hi641 : k < L.length := (by first | omega | (simp only [lens]; omega))
       refine st (zl (k := 10) (i := k) Try.underlying22 Try.sizeOf36 rfl hrd342.sl rfl hi641 ?_)
       have hi643 : k < L.length := (by first | omega | (simp only [lens]; omega))
       obtain ⟨hce642, hde642_0, hoke642⟩ := hrd342.ev hi643
       rw [← zm default hi643] at hce642 hde642_0 hoke642
       have hsm644 : ((L.getD k default).deps).length * 8 ≤ 140737488355328 := hde642_0.small
       have hcw645 := hS638.cells hce642 (hrd342.foot (ne_of_lt hi643))
       refine st (zr (k := 10) Try.isAgg36 Try.sizeOf36 rfl rfl hcw645 ?_)
       refine st (zD (k := 10) (parts' := [(0, .agg ((L.getD k default).cells (zT w325 (sb vl331) (so vl331 + k * 10 + 3))).toArray)]) (c := ((L.getD k default).cells (zT w325 (sb vl331) (so vl331 + k * 10 + 3))).toArray) Try.underlying22 Try.sizeOf36 Try.zeroValue36 (by decide) rfl (by kernel_rfl) ?_)
       intro w648 b647 hn646
       have hS649 := hS638.new hn646
       have hbk653 := hS649.blk (i := 0) rfl
       have hS654 : Sep G336 w325 ((RowE (α := Ev) (alt F335 w325) 36 vo (ym e L k)) :: (Blk b #[.int .i64 ((n : Nat) : Int), vl331] 78) :: (RowE (α := Int) own 3 v165 (zz n L)) :: (Blk b123 (((zq L (e.origin, e.seq)).getD default).cells v117).toArray 36) :: (RowE (α := Int) own 3 v117 (((zq L (e.origin, e.seq)).getD default).deps)) :: (Blk b12 (e.cells de0).toArray 36) :: Rs) w648 := hS649.sel 7 [1, 2, 3, 4, 5, 6] (Nat.le_add_left _ _) rfl rfl
       have hS655 : Sep G336 w325 ((RowE (α := Ev) (alt F335 w325) 36 vo (ym e L k)) :: Emp :: (Blk b #[.int .i64 ((n : Nat) : Int), vl331] 78) :: (RowE (α := Int) own 3 v165 (zz n L)) :: (Blk b123 (((zq L (e.origin, e.seq)).getD default).cells v117).toArray 36) :: (RowE (α := Int) own 3 v117 (((zq L (e.origin, e.seq)).getD default).deps)) :: (Blk b12 (e.cells de0).toArray 36) :: Rs) w648 := hS654.emp1
       refine st (zZ (src := (alt F335 w325)) (bytes := 96) (x1 := (L.getD k default)) hS655 xZ rfl rfl hbk653 (fun _ _ _ => (show _ from XZ (RdS.evD hF337 (by omega)))) (by first | omega | (simp only [List.length_append, List.length_cons, List.length_nil, List.length_take, List.length_drop]; omega)) rfl ?_)
       intro v651 w650 hS652
       have hr656 := hS652.row (i := 0) rfl
       have hr656s : _ * 96 ≤ _ := hr656.2
       refine st (zd (v := v651) rfl ?_)
       refine ze ?_
       refine za (by kernel_rfl) (fun _ => ?_)
       refine st (zb (v := .int .i64 ((k : Nat) : Int)) rfl ?_)
       have hr657 : InR ((k + 1 : Nat) : Int) := by first | omega | (simp only [lens]; omega)
       refine st (zB (r := ((k + 1 : Nat) : Int)) (k := .i64) (a := ((k : Nat) : Int)) (b := 1) rfl rfl (by rw [show (((k : Nat) : Int) + 1 : Int) = ((k + 1 : Nat) : Int) by first | omega | (simp only [lens]; omega)]; exact zy hr657) ?_)
       refine st (zd (v := .int .i64 ((k + 1 : Nat) : Int)) rfl ?_)
       refine ze ?_
       have hL658 : (ym e L (k + 1)) = (ym e L k) ++ [(L.getD k default)] := (Zm (by omega) hc640r).1
       rw [← hL658] at hS652
       exact ⟨_, by omega, k + 1, v651, _, rfl, zh ⟨rfl, rfl, (show _ = (.bool (zG e L (k + 1)) : Value) from (congrArg Value.bool (Zm (by omega) hc640r).2).symm), rfl, rfl, trivial⟩, by omega, hS652⟩
      ·skip
       have hc640r := hc640
       try simp only [zx] at hc640
       refine zk rfl ?_
       refine zc ?_
       refine za (by kernel_rfl) (fun _ => ?_)
       refine st (zb (v := vo) rfl ?_)
       refine st (zr (k := 10) Try.isAgg36 Try.sizeOf36 rfl rfl (CellsAt.all (hS638.blk (i := 5) rfl)) ?_)
       refine st (zj (f := 23) (vals := [.agg (e.cells de0).toArray]) (cap := []) rfl rfl Try.call23 (yJ (e := e) (RdS.base hde0 hB339) oe hS638) ?_)
       rintro _ w660 ⟨v659, rfl, hS661⟩
       have hr662 := hS661.row (i := 0) rfl
       have hr662s : _ * 8 ≤ _ := hr662.2
       refine st (zD (k := 10) (parts' := [(0, .agg (e.cells v659).toArray)]) (c := (e.cells v659).toArray) Try.underlying22 Try.sizeOf36 Try.zeroValue36 (by decide) rfl (by kernel_rfl) ?_)
       intro w665 b664 hn663
       have hS666 := hS661.new hn663
       have hbk670 := hS666.blk (i := 0) rfl
       have hS671 : Sep G336 w325 ((RowE (α := Ev) (alt F335 w325) 36 vo (ym e L k)) :: (RowE (α := Int) own 3 v659 e.deps) :: (Blk b #[.int .i64 ((n : Nat) : Int), vl331] 78) :: (RowE (α := Int) own 3 v165 (zz n L)) :: (Blk b123 (((zq L (e.origin, e.seq)).getD default).cells v117).toArray 36) :: (RowE (α := Int) own 3 v117 (((zq L (e.origin, e.seq)).getD default).deps)) :: (Blk b12 (e.cells de0).toArray 36) :: Rs) w665 := hS666.sel 8 [2, 1, 3, 4, 5, 6, 7] (Nat.le_add_left _ _) rfl rfl
       refine st (zZ (src := (alt F335 w325)) (bytes := 96) (x1 := e) hS671 xZ rfl rfl hbk670 (fun _ _ hN => Yw hN oe) (by first | omega | (simp only [List.length_append, List.length_cons, List.length_nil, List.length_take, List.length_drop]; omega)) rfl ?_)
       intro v668 w667 hS669
       have hr672 := hS669.row (i := 0) rfl
       have hr672s : _ * 96 ≤ _ := hr672.2
       refine st (zd (v := v668) rfl ?_)
       refine ze ?_
       refine za (by kernel_rfl) (fun _ => ?_)
       refine st (zd (v := .bool true) rfl ?_)
       refine ze ?_
       refine za (by kernel_rfl) (fun _ => ?_)
       refine st (zb (v := v668) rfl ?_)
       refine st (zb (v := .pointer (some ⟨b, 0, none⟩)) rfl ?_)
       refine st (zn (b := b) (o := 0) rfl ?_)
       refine st (yI rfl ?_)
       refine st (zg (v := vl331) Try.isAgg22 rfl (zf (hS669.blk (i := 1) rfl) rfl) ?_)
       refine st (zb (v := .int .i64 ((k : Nat) : Int)) rfl ?_)
       have hi673 : k < L.length := (by first | omega | (simp only [lens]; omega))
       refine st (zl (k := 10) (i := k) Try.underlying22 Try.sizeOf36 rfl hrd342.sl rfl hi673 ?_)
       have hi675 : k < L.length := (by first | omega | (simp only [lens]; omega))
       obtain ⟨hce674, hde674_0, hoke674⟩ := hrd342.ev hi675
       rw [← zm default hi675] at hce674 hde674_0 hoke674
       have hsm676 : ((L.getD k default).deps).length * 8 ≤ 140737488355328 := hde674_0.small
       have hcw677 := hS669.cells hce674 (hrd342.foot (ne_of_lt hi675))
       refine st (zr (k := 10) Try.isAgg36 Try.sizeOf36 rfl rfl hcw677 ?_)
       refine st (zD (k := 10) (parts' := [(0, .agg ((L.getD k default).cells (zT w325 (sb vl331) (so vl331 + k * 10 + 3))).toArray)]) (c := ((L.getD k default).cells (zT w325 (sb vl331) (so vl331 + k * 10 + 3))).toArray) Try.underlying22 Try.sizeOf36 Try.zeroValue36 (by decide) rfl (by kernel_rfl) ?_)
       intro w680 b679 hn678
       have hS681 := hS669.new hn678
       have hbk685 := hS681.blk (i := 0) rfl
       have hS686 : Sep G336 w325 ((RowE (α := Ev) (alt F335 w325) 36 v668 ((ym e L k) ++ [e])) :: (Blk b #[.int .i64 ((n : Nat) : Int), vl331] 78) :: (RowE (α := Int) own 3 v165 (zz n L)) :: (Blk b123 (((zq L (e.origin, e.seq)).getD default).cells v117).toArray 36) :: (RowE (α := Int) own 3 v117 (((zq L (e.origin, e.seq)).getD default).deps)) :: (Blk b12 (e.cells de0).toArray 36) :: Rs) w680 := hS681.sel 7 [1, 2, 3, 4, 5, 6] (Nat.le_add_left _ _) rfl rfl
       have hS687 : Sep G336 w325 ((RowE (α := Ev) (alt F335 w325) 36 v668 ((ym e L k) ++ [e])) :: Emp :: (Blk b #[.int .i64 ((n : Nat) : Int), vl331] 78) :: (RowE (α := Int) own 3 v165 (zz n L)) :: (Blk b123 (((zq L (e.origin, e.seq)).getD default).cells v117).toArray 36) :: (RowE (α := Int) own 3 v117 (((zq L (e.origin, e.seq)).getD default).deps)) :: (Blk b12 (e.cells de0).toArray 36) :: Rs) w680 := hS686.emp1
       refine st (zZ (src := (alt F335 w325)) (bytes := 96) (x1 := (L.getD k default)) hS687 xZ rfl rfl hbk685 (fun _ _ _ => (show _ from XZ (RdS.evD hF337 (by omega)))) (by first | omega | (simp only [List.length_append, List.length_cons, List.length_nil, List.length_take, List.length_drop]; omega)) rfl ?_)
       intro v683 w682 hS684
       have hr688 := hS684.row (i := 0) rfl
       have hr688s : _ * 96 ≤ _ := hr688.2
       refine st (zd (v := v683) rfl ?_)
       refine ze ?_
       refine za (by kernel_rfl) (fun _ => ?_)
       refine st (zb (v := .int .i64 ((k : Nat) : Int)) rfl ?_)
       have hr689 : InR ((k + 1 : Nat) : Int) := by first | omega | (simp only [lens]; omega)
       refine st (zB (r := ((k + 1 : Nat) : Int)) (k := .i64) (a := ((k : Nat) : Int)) (b := 1) rfl rfl (by rw [show (((k : Nat) : Int) + 1 : Int) = ((k + 1 : Nat) : Int) by first | omega | (simp only [lens]; omega)]; exact zy hr689) ?_)
       refine st (zd (v := .int .i64 ((k + 1 : Nat) : Int)) rfl ?_)
       refine ze ?_
       have hL690 : (ym e L (k + 1)) = (ym e L k) ++ [e] ++ [(L.getD k default)] := (ZF (by omega) hc640r).1
       rw [← hL690] at hS684
       exact ⟨_, by omega, k + 1, v683, _, rfl, zh ⟨rfl, rfl, (show _ = (.bool (zG e L (k + 1)) : Value) from (congrArg Value.bool (ZF (by omega) hc640r).2).symm), rfl, rfl, trivial⟩, by omega, hS684⟩
    ·skip
     have hc329r := hc329
     have hc329 := of_decide_eq_true hc329
     refine zk rfl ?_
     refine zo ?_
     refine zc ?_
     refine zt ?_
     refine zc ?_
     refine za (by kernel_rfl) (fun _ => ?_)
     refine st (zb (v := .pointer (some ⟨b, 0, none⟩)) rfl ?_)
     refine st (zr (k := 10) Try.isAgg36 Try.sizeOf36 rfl rfl (CellsAt.all (hS328.blk (i := 3) rfl)) ?_)
     refine st (zb (v := .int .i64 ((k : Nat) : Int)) rfl ?_)
     refine st (zj (f := 55) (vals := [.pointer (some ⟨b, 0, none⟩), .agg (e.cells de0).toArray, .int .i64 ((k : Nat) : Int)]) (cap := []) rfl rfl Try.call55 (VZ (e := e) (o := k) hA3 (RdS.base hde0 hB4) oe (by first | omega | (refine ⟨?_, ?_⟩ <;> omega)) hS328 (hd9) (hG.len)) ?_)
     rintro _ w691 ⟨rfl, hS692⟩
     refine st (yA (a := (yN L e k)) rfl ?_)
     refine ze ?_
     cases hc693 : !(yN L e k)
     ·skip
      have hc693r := hc693
      try simp only [zx] at hc693
      refine zi rfl ?_
      refine zo ?_
      refine za (by kernel_rfl) (fun _ => ?_)
      refine st (zb (v := .int .i64 ((k : Nat) : Int)) rfl ?_)
      have hr694 : InR ((k + 1 : Nat) : Int) := by first | omega | (simp only [lens]; omega)
      refine st (zB (r := ((k + 1 : Nat) : Int)) (k := .i64) (a := ((k : Nat) : Int)) (b := 1) rfl rfl (by rw [show (((k : Nat) : Int) + 1 : Int) = ((k + 1 : Nat) : Int) by first | omega | (simp only [lens]; omega)]; exact zy hr694) ?_)
      refine st (zd (v := .int .i64 ((k + 1 : Nat) : Int)) rfl ?_)
      refine ze ?_
      exact ⟨_, by omega, k + 1, _, rfl, zh ⟨rfl, rfl, rfl, trivial⟩, by omega, (yE hm (by simpa using hc693)), hS692⟩
     ·skip
      have hc693r := hc693
      try simp only [zx] at hc693
      refine zk rfl ?_
      refine zc ?_
      refine za (by kernel_rfl) (fun _ => ?_)
      refine st (zd (v := .int .i64 (9)) rfl ?_)
      refine ze ?_
      refine zw ?_
      refine zL Try.results22 (show _ = (.int .i64 (9) : Value) from rfl) ?_
      have hS695 := hk6 _ _ hS692
      have hS696 : Sep G W ((RefS b n L) :: Rs) w691 := hS695.sel 5 [0] (Nat.le_add_left _ _) rfl rfl
      refine ⟨L, ?_, ?_, hS696⟩
      · rw [XD hc116 hc129 (by rw [hv9] at hc324; exact hc324) (k := k) (by omega) (by simpa using hc693)]
      · rw [yZ (by rw [XD hc116 hc129 (by rw [hv9] at hc324; exact hc324) (k := k) (by omega) (by simpa using hc693)]; decide)]
   ·skip
    have hc324r := hc324
    have hc324 := yx hc324
    refine zk rfl ?_
    refine zc ?_
    refine za (by kernel_rfl) (fun _ => ?_)
    refine st (zd (v := .int .i64 (9)) rfl ?_)
    refine ze ?_
    refine zw ?_
    refine zL Try.results22 (show _ = (.int .i64 (9) : Value) from rfl) ?_
    have hS697 := hk6 _ _ hS322
    have hS698 : Sep G W ((RefS b n L) :: Rs) w319 := hS697.sel 5 [0] (Nat.le_add_left _ _) rfl rfl
    refine ⟨L, ?_, ?_, hS698⟩
    · rw [Xr hc116 hc129 (by rw [hv9] at hc324; exact hc324)]
    · rw [yZ (by rw [Xr hc116 hc129 (by rw [hv9] at hc324; exact hc324)]; decide)]
  ·skip
   have hc129r := hc129
   refine zk rfl ?_
   refine zc ?_
   refine za (by kernel_rfl) (fun _ => ?_)
   refine st (zd (v := .int .i64 (16)) rfl ?_)
   refine ze ?_
   refine zw ?_
   refine zL Try.results22 (show _ = (.int .i64 (16) : Value) from rfl) ?_
   have hS699 := hk6 _ _ hS128
   have hS700 : Sep G W ((RefS b n L) :: Rs) w126 := hS699.sel 4 [0] (Nat.le_add_left _ _) rfl rfl
   refine ⟨L, ?_, ?_, hS700⟩
   · rw [XG hc116 hc129]
   · rw [yZ (by rw [XG hc116 hc129]; decide)]
 ·skip
  have hc116r := hc116
  have hc116 := yx hc116
  refine zk rfl ?_
  refine zc ?_
  refine za (by kernel_rfl) (fun _ => ?_)
  refine st (zb (v := .int .i64 ((zI e ((n : Nat) : Int)))) rfl ?_)
  refine st (zd (v := .int .i64 ((zI e ((n : Nat) : Int)))) rfl ?_)
  refine ze ?_
  refine zw ?_
  refine zL Try.results22 (show _ = (.int .i64 ((zI e ((n : Nat) : Int))) : Value) from rfl) ?_
  have hS701 := hk6 _ _ hS114
  have hS702 : Sep G W ((RefS b n L) :: Rs) w111 := hS701.sel 2 [0] (Nat.le_add_left _ _) rfl rfl
  refine ⟨L, ?_, ?_, hS702⟩
  · rw [XE hc116]
  · rw [yZ (by rw [XE hc116]; exact hc116)]

theorem YE {G : Nat → Prop} {W w : World} {Rs : List HP} {b : Nat} {n : Nat} {L : List Ev} {e : Ev} {de0 : Value} (hde0 : RdS W G de0 e.deps) (oe : e.Ok) (hS0 : Sep G W ((RefS b n L) :: Rs) w) (hG : Good n L) (hn : n ≤ 1000) (hL : L.length ≤ 1000000) : Ret Try.prog 22 [.pointer (some ⟨b, 0, none⟩), .agg (e.cells de0).toArray] w (fun r w' => r = (.int .i64 ((zU n L e)) : Value) ∧ Sep G W ((RefS b n (addL n L e)) :: Rs) w') := by
  refine Ret.mono (Jo hde0 oe hS0 hG hn hL) ?_
  rintro r w' ⟨L1, h1, h2, h3⟩
  subst h2
  exact ⟨h1, h3⟩

end Go.Proofs.Ytmiihhbeclhaoaa
end

section
/- Steps of the proofs of this seat: part R4. -/
set_option maxRecDepth 8000
set_option maxHeartbeats 4000000
namespace Go.Proofs.Ytmiihhbeclhaoaa
open Go.Proofs Go.RowKit

section
variable {L : List Ev} {key : Int} {k : Nat}
end
theorem Jg {G : Nat → Prop} {W w : World} {Rs : List HP} {b : Nat} {n : Nat} {L : List Ev} (hb : (RefS b n L).p W G) (hS0 : Sep G W Rs w) : Ret Try.prog 30 [.pointer (some ⟨b, 0, none⟩)] w (fun r w' => ∃ (v : Value), r = (v : Value) ∧ Sep G W ((RowE (α := Ev) own 36 v L) :: Rs) w') := by
 refine zp (args := [.pointer (some ⟨b, 0, none⟩)]) Try.func30 rfl rfl ?_
 obtain ⟨vl1, hb2, hl3⟩ := RefS.sh hb
 have hsm4 : L.length * 96 ≤ 140737488355328 := hl3.small
 refine zc ?_
 refine za (by kernel_rfl) (fun _ => ?_)
 refine st (zd (v := (.slice none 0 0)) rfl ?_)
 refine ze ?_
 refine zc ?_
 refine za (by kernel_rfl) (fun _ => ?_)
 refine st (zd (v := (.slice none 0 0)) rfl ?_)
 refine ze ?_
 refine zc ?_
 refine zc ?_
 refine za (by kernel_rfl) (fun _ => ?_)
 refine st (zd (v := .int .i64 (0)) rfl ?_)
 refine ze ?_
 refine zt ?_
 have hS5 : Sep G W ((RowE (α := Ev) own 36 (.slice none 0 0) ([] : List Ev)) :: Rs) w := hS0.rowNil own 36
 refine zP (fun mq σ wq => ∃ (k : Nat) (vo : Value) (ρ : Env), mq = L.length - k ∧ σ = zQ ρ [(0, .pointer (some ⟨b, 0, none⟩)), (4, .int .i64 ((k : Nat) : Int)), (3, vo)] ∧ (k ≤ L.length) ∧ Sep G W ((RowE (α := Ev) own 36 vo (L.take k)) :: Rs) wq) ⟨0, (.slice none 0 0), _, rfl, zh ⟨rfl, rfl, rfl, trivial⟩, Nat.zero_le _, hS5⟩ ?_
 rintro m7 σ8 w6 ⟨k, vo, ρl1, rfl, rfl, hkk, hS9⟩
 have hr10 := hS9.row (i := 0) rfl
 have hr10s : _ * 96 ≤ _ := hr10.2
 refine zc ?_
 refine zc ?_
 refine za (by kernel_rfl) (fun _ => ?_)
 refine st (zb (v := .int .i64 ((k : Nat) : Int)) rfl ?_)
 refine st (zb (v := .pointer (some ⟨b, 0, none⟩)) rfl ?_)
 refine st (zn (b := b) (o := 0) rfl ?_)
 refine st (yI rfl ?_)
 refine st (zg (v := vl1) Try.isAgg22 rfl (zf (hS9.gblk hb2) rfl) ?_)
 refine st (zJ (n := L.length) Try.underlying22 rfl hl3.sl ?_)
 refine st (zH (k := .i64) (a := ((k : Nat) : Int)) (b := ((L.length : Nat) : Int)) rfl rfl ?_)
 refine ze ?_
 cases hc11 : decide (((k : Nat) : Int) < ((L.length : Nat) : Int))
 ·skip
  have hc11 := of_decide_eq_false hc11
  refine zi rfl ?_
  refine zO ?_
  refine zF ?_
  refine zc ?_
  refine za (by kernel_rfl) (fun _ => ?_)
  refine st (zb (v := vo) rfl ?_)
  refine st (zd (v := vo) rfl ?_)
  refine ze ?_
  refine zw ?_
  refine zL Try.results30 (show _ = (vo : Value) from rfl) ?_
  have hk9 : k = L.length := by omega
  rw [hk9, List.take_length] at hS9
  refine ⟨vo, rfl, hS9⟩
 ·skip
  have hc11 := of_decide_eq_true hc11
  refine zk rfl ?_
  refine zo ?_
  refine zc ?_
  refine zt ?_
  refine za (by kernel_rfl) (fun _ => ?_)
  refine st (zb (v := vo) rfl ?_)
  refine st (zb (v := .pointer (some ⟨b, 0, none⟩)) rfl ?_)
  refine st (zn (b := b) (o := 0) rfl ?_)
  refine st (yI rfl ?_)
  refine st (zg (v := vl1) Try.isAgg22 rfl (zf (hS9.gblk hb2) rfl) ?_)
  refine st (zb (v := .int .i64 ((k : Nat) : Int)) rfl ?_)
  have hi12 : k < L.length := (by first | omega | (simp only [lens]; omega))
  refine st (zl (k := 10) (i := k) Try.underlying22 Try.sizeOf36 rfl hl3.sl rfl hi12 ?_)
  have hi14 : k < L.length := (by first | omega | (simp only [lens]; omega))
  obtain ⟨hce13, hde13_0, hoke13⟩ := hl3.ev hi14
  rw [← zm default hi14] at hce13 hde13_0 hoke13
  have hsm15 : ((L.getD k default).deps).length * 8 ≤ 140737488355328 := hde13_0.small
  have hcw16 := hS9.cells hce13 (hl3.foot (ne_of_lt hi14))
  refine st (zr (k := 10) Try.isAgg36 Try.sizeOf36 rfl rfl hcw16 ?_)
  refine st (zj (f := 23) (vals := [.agg ((L.getD k default).cells (zT W (sb vl1) (so vl1 + k * 10 + 3))).toArray]) (cap := []) rfl rfl Try.call23 (yJ (e := (L.getD k default)) hde13_0 hoke13 hS9) ?_)
  rintro _ w18 ⟨v17, rfl, hS19⟩
  have hr20 := hS19.row (i := 0) rfl
  have hr20s : _ * 8 ≤ _ := hr20.2
  refine st (zD (k := 10) (parts' := [(0, .agg ((L.getD k default).cells v17).toArray)]) (c := ((L.getD k default).cells v17).toArray) Try.underlying22 Try.sizeOf36 Try.zeroValue36 (by decide) rfl (by kernel_rfl) ?_)
  intro w23 b22 hn21
  have hS24 := hS19.new hn21
  have hbk28 := hS24.blk (i := 0) rfl
  have hS29 : Sep G W ((RowE (α := Ev) own 36 vo (L.take k)) :: (RowE (α := Int) own 3 v17 ((L.getD k default).deps)) :: Rs) w23 := hS24.sel 3 [2, 1] (Nat.le_add_left _ _) rfl rfl
  refine st (zZ (src := own) (bytes := 96) (x1 := (L.getD k default)) hS29 xZ rfl rfl hbk28 (fun _ _ hN => ⟨_, rfl, RowE.soft hN, hoke13⟩) (by first | omega | (simp only [List.length_append, List.length_cons, List.length_nil, List.length_take, List.length_drop]; omega)) rfl ?_)
  intro v26 w25 hS27
  have hr30 := hS27.row (i := 0) rfl
  have hr30s : _ * 96 ≤ _ := hr30.2
  refine st (zd (v := v26) rfl ?_)
  refine ze ?_
  refine za (by kernel_rfl) (fun _ => ?_)
  refine st (zb (v := .int .i64 ((k : Nat) : Int)) rfl ?_)
  have hr31 : InR ((k + 1 : Nat) : Int) := by first | omega | (simp only [lens]; omega)
  refine st (zB (r := ((k + 1 : Nat) : Int)) (k := .i64) (a := ((k : Nat) : Int)) (b := 1) rfl rfl (by rw [show (((k : Nat) : Int) + 1 : Int) = ((k + 1 : Nat) : Int) by first | omega | (simp only [lens]; omega)]; exact zy hr31) ?_)
  refine st (zd (v := .int .i64 ((k + 1 : Nat) : Int)) rfl ?_)
  refine ze ?_
  have hL32 : (L.take (k + 1)) = (L.take k) ++ [(L.getD k default)] := (takeL_getD (by omega))
  rw [← hL32] at hS27
  exact ⟨_, by omega, k + 1, v26, _, rfl, zh ⟨rfl, rfl, rfl, trivial⟩, by omega, hS27⟩

end Go.Proofs.Ytmiihhbeclhaoaa
end
