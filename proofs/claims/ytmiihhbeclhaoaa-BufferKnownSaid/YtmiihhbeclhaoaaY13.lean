/- Texts of this claim, part 13. -/
import Derived.Test.YtmiihhbeclhaoaaY12
set_option linter.unusedSimpArgs false
set_option linter.unusedVariables false
set_option linter.unusedSectionVars false
section
/- Steps of the proofs of this seat: part D5. -/
set_option maxRecDepth 8000
set_option maxHeartbeats 4000000
namespace Go.Proofs.Ytmiihhbeclhaoaa
open Go.Proofs Go.RowKit

def ya (most : Int) (B : List Ev) (e : Ev) : Bool := !(decide (most ≤ ((B.length : Nat) : Int)) || yf B e)
def yF (most : Int) (B : List Ev) (e : Ev) : List Ev := if ya most B e = true then yj e B else B
section
variable {most : Int} {B : List Ev} {e : Ev}
theorem XM (h : (decide (most ≤ ((B.length : Nat) : Int)) || yf B e) = true) : ya most B e = false ∧ yF most B e = B := by
  have h1 : ya most B e = false := by unfold ya; rw [h]; rfl
  exact ⟨h1, by unfold yF; rw [if_neg (by rw [h1]; decide)]⟩
theorem Xb (h : (decide (most ≤ ((B.length : Nat) : Int)) || yf B e) = false) : ya most B e = true ∧ yF most B e = yj e B := by
  have h1 : ya most B e = true := by unfold ya; rw [h]; rfl
  exact ⟨h1, by unfold yF; rw [if_pos h1]⟩
theorem Wh (h : yf B e = false) : idE e ∉ B.map idE := fun hm => by
  obtain ⟨x, hx, he⟩ := List.mem_map.1 hm
  unfold yf at h
  rw [List.any_eq_false] at h
  exact h x hx (xp.2 he)
theorem KL {ix : Nat} (h : (decide (most ≤ ((B.length : Nat) : Int)) || yf B e) = false) (hix : ix ≤ B.length ∧ (∀ q, q < ix → yt (B.getD q default) e < 0) ∧ (∀ q, ix ≤ q → q < B.length → ¬ yt (B.getD q default) e < 0)) : B.take ix ++ [e] ++ B.drop ix = yj e B := by
  rw [Bool.or_eq_false_iff] at h
  refine (Qq (Wh h.2) hix.1 (fun j hj => xf.2 (hix.2.1 j hj)) (fun hl => ?_)).symm
  cases hb : ltE (B.getD ix default) e with
  | false => rfl
  | true => exact absurd (xf.1 hb) (hix.2.2 ix (Nat.le_refl _) hl)
end
theorem JE {d : Option Tmp} {ty : TypeId} {pos : String} {af : Array Edge} {g : Option (Nat × Bool)} {σ : Env} {w : World} {K : Value → World → Prop} {x : Operand} {b o : Nat} (hx : ev σ x = .pointer (some ⟨b, o, none⟩)) (h : K (.pointer (some ⟨b, o + 0, none⟩)) w) : opV Try.prog ⟨d, .fieldAddr 61 x 0, ty, pos, af, g⟩ σ w K := zR Try.underlying61 rfl rfl (fun w => ⟨0, Try.sizeOf3 w⟩) hx h
theorem JF {G : Nat → Prop} {W w : World} {Rs : List HP} {b : Nat} {most : Int} {B : List Ev} {e : Ev} {de0 : Value} (hde0 : RdS W G de0 e.deps) (oe : e.Ok) (hS0 : Sep G W ((BufO b most B) :: Rs) w) (hmost : InR most) (hsB : Srt B) (hBl : B.length ≤ 1000000) : Ret Try.prog 14 [.pointer (some ⟨b, 0, none⟩), .agg (e.cells de0).toArray] w (fun r w' => ∃ (B1 : List Ev), r = (.bool ((ya most B e)) : Value) ∧ (B1 = yF most B e) ∧ Sep G W ((BufO b most B1) :: Rs) w') := by
 have hde0s : _ * 8 ≤ _ := hde0.small
 refine zp (args := [.pointer (some ⟨b, 0, none⟩), .agg (e.cells de0).toArray]) Try.func14 rfl rfl ?_
 obtain ⟨vl1, hS2⟩ := BufO.open hS0
 have hS2t : Sep G W ((Blk b #[.int .i64 (most), vl1] 61) :: (EvW vl1 36 3 B) :: Rs) w := hS2
 have hes3 : B.length * 96 ≤ 140737488355328 := (hS2t.evwSl (i := 1) rfl).2
 refine zc ?_
 refine za (by kernel_rfl) (fun _ => ?_)
 refine st (yg (v := .agg (e.cells de0).toArray) rfl ?_)
 intro w6 b5 hn4
 have hS7 := hS2t.new hn4
 refine st (zd (v := .bool false) rfl ?_)
 refine ze ?_
 refine zc ?_
 refine zc ?_
 obtain ⟨G8, hA10, hB11, hS12, hk13⟩ := hS7.lend
 refine zM ((fun TT pp0 => WF [fun vals wq => Sep G8 w6 (pp0 :: TT) wq, fun vals wq => (vals 16 = (if (decide (most ≤ ((B.length : Nat) : Int))) = false then (.bool ((yf B e)) : Value) else undef)) ∧ Sep G8 w6 (pp0 :: TT) wq]) ((EvW vl1 36 3 B) :: Rs) (Blk b #[.int .i64 (most), vl1] 61)) (AF [Vl 0 (.pointer (some ⟨b, 0, none⟩)), Vl 1 (.pointer (some ⟨b, 0, none⟩)), Vl 2 (.pointer (some ⟨b, 1, none⟩)), Vl 3 (vl1), Vl 4 (.int .i64 ((B.length : Nat) : Int)), Vl 5 (.pointer (some ⟨b, 0, none⟩)), Vl 6 (.pointer (some ⟨b, 0, none⟩)), Vl 7 (.pointer (some ⟨b, 0, none⟩)), Vl 8 (.int .i64 (most)), Vl 9 (.bool (decide (most ≤ ((B.length : Nat) : Int)))), Vl 10 (.bool (decide (most ≤ ((B.length : Nat) : Int)))), Vl 11 (if (decide (most ≤ ((B.length : Nat) : Int))) = false then .pointer (some ⟨b, 0, none⟩) else undef), Vl 12 (if (decide (most ≤ ((B.length : Nat) : Int))) = false then .pointer (some ⟨b, 0, none⟩) else undef), Vl 13 (if (decide (most ≤ ((B.length : Nat) : Int))) = false then .pointer (some ⟨b, 1, none⟩) else undef), Vl 14 (if (decide (most ≤ ((B.length : Nat) : Int))) = false then vl1 else undef), Vl 15 (if (decide (most ≤ ((B.length : Nat) : Int))) = false then .func (.func 40) #[] #[.pointer (some ⟨b5, 0, none⟩)] else undef), fun _ => True, Vl 17 (.bool ((decide (most ≤ ((B.length : Nat) : Int))) || (yf B e)))]) [[], [0], [0, 1], [0, 1, 2], [0, 1, 2, 3], [], [5], [5, 6], [5, 6, 7], [0, 1, 2, 3, 4, 5, 6, 7, 8], [0, 1, 2, 3, 4, 5, 6, 7, 8, 9], [0, 1, 2, 3, 4, 5, 6, 7, 8, 9, 10], [0, 1, 2, 3, 4, 5, 6, 7, 8, 9, 10, 11], [0, 1, 2, 3, 4, 5, 6, 7, 8, 9, 10, 11, 12], [0, 1, 2, 3, 4, 5, 6, 7, 8, 9, 10, 11, 12, 13], [0, 1, 2, 3, 4, 5, 6, 7, 8, 9, 10], [0, 1, 2, 3, 4, 5, 6, 7, 8, 9, 10, 11, 12, 13, 14, 15], [0, 1, 2, 3, 4, 5, 6, 7, 8, 9, 10, 11, 12, 13, 14, 15, 16]] [16] [(0, 0), (0, 0), (0, 0), (0, 0), (0, 0), (0, 0), (0, 0), (0, 0), (0, 0), (0, 0), (0, 0), (0, 0), (0, 0), (0, 0), (0, 0), (0, 0), (0, 0), (1, 1)] (by kernel_rfl) (by kernel_rfl) (by kernel_rfl) rfl (by kernel_rfl) (by kernel_rfl) (fun _ h1 h2 h3 h4 _ => hS12.same h1 h2 h3 h4) ?_ (yc ⟨dA, dA, dA, dA, dA, dA, dA, dA, dA, dA, dA, dA, dA, dA, dA, dA, dT, dA, trivial⟩) ⟨?_, ?_, ?_, ?_, ?_, ?_, ?_, ?_, ?_, ?_, ?_, ?_, ?_, ?_, ?_, ?_, ?_, ?_, trivial⟩ ?_
 ·intro k vals vals' w hv h
  have e : ∀ j ∈ ([16] : List Nat), vals' j = vals j := hv
  match k, h with
  | 0, h => exact h
  | 1, h => exact (by simpa only [WF, List.getElem?_cons_zero, List.getElem?_cons_succ, e 16 (by decide)] using h)
  | _ + 2, _ => trivial
 ·intro k176 vals w177 h180 h181 hW179 hA178
  refine obl rfl ?_
  exact zb (v := .pointer (some ⟨b, 0, none⟩)) rfl (fun vals' hv _ => ⟨rfl, hv⟩)
 ·intro k182 vals w183 h186 h187 hW185 hA184
  have e188 := hA184 0 (by decide)
  refine obl rfl ?_
  exact zn (b := b) (o := 0) e188 (fun vals' hv _ => ⟨rfl, hv⟩)
 ·intro k189 vals w190 h193 h194 hW192 hA191
  have e195 := hA191 1 (by decide)
  refine obl rfl ?_
  exact xl e195 (fun vals' hv _ => ⟨rfl, hv⟩)
 ·intro k196 vals w197 h200 h201 hW199 hA198
  obtain rfl : k196 = 0 := Nat.le_antisymm h201 h200
  have hS202 : Sep _ _ _ _ := hW199
  have e203 := hA198 2 (by decide)
  refine obl rfl ?_
  exact zg (v := vl1) Try.isAgg22 e203 (zf (hS202.blk (i := 0) rfl) rfl) (fun vals' hv _ => ⟨rfl, hv⟩)
 ·intro k204 vals w205 h208 h209 hW207 hA206
  obtain rfl : k204 = 0 := Nat.le_antisymm h209 h208
  have hS210 : Sep _ _ _ _ := hW207
  have e211 := hA206 3 (by decide)
  refine obl rfl ?_
  exact zJ (n := B.length) Try.underlying22 e211 (hS210.evwSl (i := 1) rfl).1 (fun vals' hv _ => ⟨rfl, hv⟩)
 ·intro k212 vals w213 h216 h217 hW215 hA214
  refine obl rfl ?_
  exact zb (v := .pointer (some ⟨b, 0, none⟩)) rfl (fun vals' hv _ => ⟨rfl, hv⟩)
 ·intro k218 vals w219 h222 h223 hW221 hA220
  have e224 := hA220 5 (by decide)
  refine obl rfl ?_
  exact zn (b := b) (o := 0) e224 (fun vals' hv _ => ⟨rfl, hv⟩)
 ·intro k225 vals w226 h229 h230 hW228 hA227
  have e231 := hA227 6 (by decide)
  refine obl rfl ?_
  exact JE e231 (fun vals' hv _ => ⟨rfl, hv⟩)
 ·intro k232 vals w233 h236 h237 hW235 hA234
  obtain rfl : k232 = 0 := Nat.le_antisymm h237 h236
  have hS238 : Sep _ _ _ _ := hW235
  have e239 := hA234 7 (by decide)
  refine obl rfl ?_
  exact zg (v := .int .i64 (most)) Try.isAgg3 e239 (zf (hS238.blk (i := 0) rfl) rfl) (fun vals' hv _ => ⟨rfl, hv⟩)
 ·intro k240 vals w241 h244 h245 hW243 hA242
  obtain rfl : k240 = 0 := Nat.le_antisymm h245 h244
  have hS246 : Sep _ _ _ _ := hW243
  have e247 := hA242 4 (by decide)
  have e248 := hA242 8 (by decide)
  refine obl rfl ?_
  exact xv (k := .i64) (a := ((B.length : Nat) : Int)) (b := most) e247 e248 (fun vals' hv _ => ⟨rfl, hv⟩)
 ·intro k249 vals w250 h253 h254 hW252 hA251
  have e255 := hA251 9 (by decide)
  refine obl rfl ?_
  exact zb (v := .bool (decide (most ≤ ((B.length : Nat) : Int)))) e255 (fun vals' hv _ => ⟨rfl, hv⟩)
 ·intro k256 vals w257 h260 h261 hW259 hA258
  have e262 := hA258 10 (by decide)
  refine yT rfl rfl e262 (fun hb263 => ?_) (fun hb263 => fun vals' hv _ => ⟨trivial, hv.trans (if_neg hb263).symm⟩)
  have hl264 := hb263
  have hl264 := of_decide_eq_false hl264
  exact zb (v := .pointer (some ⟨b, 0, none⟩)) rfl (fun vals' hv _ => ⟨rfl, hv.trans (if_pos hb263).symm⟩)
 ·intro k265 vals w266 h269 h270 hW268 hA267
  have e271 := hA267 10 (by decide)
  have e272 : vals 11 = (if (decide (most ≤ ((B.length : Nat) : Int))) = false then (.pointer (some ⟨b, 0, none⟩) : Value) else undef) := hA267 11 (by decide)
  refine yT rfl rfl e271 (fun hb273 => ?_) (fun hb273 => fun vals' hv _ => ⟨trivial, hv.trans (if_neg hb273).symm⟩)
  have hl274 := hb273
  have hl274 := of_decide_eq_false hl274
  exact zn (b := b) (o := 0) (show _ = (.pointer (some ⟨b, 0, none⟩) : Value) from (Eq.trans e272 (if_pos hb273))) (fun vals' hv _ => ⟨rfl, hv.trans (if_pos hb273).symm⟩)
 ·intro k275 vals w276 h279 h280 hW278 hA277
  have e281 := hA277 10 (by decide)
  have e282 : vals 12 = (if (decide (most ≤ ((B.length : Nat) : Int))) = false then (.pointer (some ⟨b, 0, none⟩) : Value) else undef) := hA277 12 (by decide)
  refine yT rfl rfl e281 (fun hb283 => ?_) (fun hb283 => fun vals' hv _ => ⟨trivial, hv.trans (if_neg hb283).symm⟩)
  have hl284 := hb283
  have hl284 := of_decide_eq_false hl284
  exact xl (show _ = (.pointer (some ⟨b, 0, none⟩) : Value) from (Eq.trans e282 (if_pos hb283))) (fun vals' hv _ => ⟨rfl, hv.trans (if_pos hb283).symm⟩)
 ·intro k285 vals w286 h289 h290 hW288 hA287
  obtain rfl : k285 = 0 := Nat.le_antisymm h290 h289
  have hS291 : Sep _ _ _ _ := hW288
  have e292 := hA287 10 (by decide)
  have e293 : vals 13 = (if (decide (most ≤ ((B.length : Nat) : Int))) = false then (.pointer (some ⟨b, 1, none⟩) : Value) else undef) := hA287 13 (by decide)
  refine yT rfl rfl e292 (fun hb294 => ?_) (fun hb294 => fun vals' hv _ => ⟨trivial, hv.trans (if_neg hb294).symm⟩)
  have hl295 := hb294
  have hl295 := of_decide_eq_false hl295
  exact zg (v := vl1) Try.isAgg22 (show _ = (.pointer (some ⟨b, 1, none⟩) : Value) from (Eq.trans e293 (if_pos hb294))) (zf (hS291.blk (i := 0) rfl) rfl) (fun vals' hv _ => ⟨rfl, hv.trans (if_pos hb294).symm⟩)
 ·intro k296 vals w297 h300 h301 hW299 hA298
  have e302 := hA298 10 (by decide)
  refine yT rfl rfl e302 (fun hb303 => ?_) (fun hb303 => fun vals' hv _ => ⟨trivial, hv.trans (if_neg hb303).symm⟩)
  have hl304 := hb303
  have hl304 := of_decide_eq_false hl304
  exact xG (vals := [.pointer (some ⟨b5, 0, none⟩)]) rfl (fun vals' hv _ => ⟨rfl, hv.trans (if_pos hb303).symm⟩)
 ·intro k143 vals w144 h147 h148 hW146 hA145
  obtain rfl : k143 = 0 := Nat.le_antisymm h148 h147
  have hS149 : Sep _ _ _ _ := hW146
  have e150 := hA145 10 (by decide)
  have e151 : vals 14 = (if (decide (most ≤ ((B.length : Nat) : Int))) = false then (vl1 : Value) else undef) := hA145 14 (by decide)
  have e152 : vals 15 = (if (decide (most ≤ ((B.length : Nat) : Int))) = false then (.func (.func 40) #[] #[.pointer (some ⟨b5, 0, none⟩)] : Value) else undef) := hA145 15 (by decide)
  refine yT rfl rfl e150 (fun hb153 => ?_) (fun hb153 vals' hv hv' => ?_)
  ·skip
   have hl154 := hb153
   have hl154 := of_decide_eq_false hl154
   have hS155 := hS149.mv1
   obtain ⟨G156, hA158, hB159, hS160, hk161⟩ := hS155.lend
   have hrd162 := EvW.rd hA158
   have hrd162s : _ * 96 ≤ _ := hrd162.small
   refine (zj (f := 39) (vals := [vl1, .func (.func 40) #[] #[.pointer (some ⟨b5, 0, none⟩)]]) (cap := []) rfl (xc ⟨(show _ = (vl1 : Value) from (Eq.trans e151 (if_pos hb153))), (show _ = (.func (.func 40) #[] #[.pointer (some ⟨b5, 0, none⟩)] : Value) from (Eq.trans e152 (if_pos hb153))), trivial⟩) Try.call39 (KR (B := B) (vB := vl1) (bx := b5) (e2 := e) (d2 := de0) hrd162 (Blk.base hA10 hB159) hS160) ?_)
   rintro _ w163 ⟨rfl, hS164⟩
   have hS165 := hk161 _ _ hS164
   have hS166 := hS165.mv1
   intro vals' hv hv'
   refine ⟨?_, trivial⟩
   show (vals' 16 = (if (decide (most ≤ ((B.length : Nat) : Int))) = false then (.bool ((yf B e)) : Value) else undef)) ∧ Sep G8 w6 ((Blk b #[.int .i64 (most), vl1] 61) :: (EvW vl1 36 3 B) :: Rs) w163
   exact ⟨(hv.trans (if_pos hb153).symm), hS166⟩
  ·skip
   refine ⟨?_, trivial⟩
   show (vals' 16 = (if (decide (most ≤ ((B.length : Nat) : Int))) = false then (.bool ((yf B e)) : Value) else undef)) ∧ Sep G8 w6 ((Blk b #[.int .i64 (most), vl1] 61) :: (EvW vl1 36 3 B) :: Rs) w144
   exact ⟨(hv.trans (if_neg hb153).symm), hS149⟩
 ·intro k305 vals w306 h309 h310 hW308 hA307
  obtain rfl : k305 = 1 := Nat.le_antisymm h310 h309
  obtain ⟨he167, hS311⟩ := hW308
  have e312 := hA307 10 (by decide)
  refine obl rfl ?_
  exact zX (b := decide (most ≤ ((B.length : Nat) : Int))) (b' := (yf B e)) e312 (fun hbp => (show _ = (.bool ((yf B e)) : Value) from (Eq.trans he167 (if_pos hbp)))) (fun vals' hv _ => ⟨rfl, hv⟩)
 intro vals w313 hW314 hA315
 obtain ⟨he167, hS316⟩ := hW314
 have e317 := hA315 17 (by decide)
 refine yb (kv := [(0, .pointer (some ⟨b, 0, none⟩)), (1, .agg (e.cells de0).toArray), (3, .pointer (some ⟨b5, 0, none⟩)), (4, .bool false), (24, .bool ((decide (most ≤ ((B.length : Nat) : Int))) || (yf B e)))]) ⟨rfl, rfl, rfl, rfl, (by exact e317), trivial⟩ (fun ρw313 => ?_)
 refine ze ?_
 cases hc318 : (decide (most ≤ ((B.length : Nat) : Int))) || (yf B e)
 ·skip
  have hc318r := hc318
  try simp only [zx] at hc318
  refine zi rfl ?_
  refine zo ?_
  refine zc ?_
  have hS319 := hk13 _ _ hS316
  refine za (by kernel_rfl) (fun _ => ?_)
  refine st (yB rfl ?_)
  refine st (zg (v := de0) Try.isAgg34 rfl (zf (hS319.blk (i := 0) rfl) rfl) ?_)
  refine st (zj (f := 41) (vals := [de0]) (cap := []) rfl rfl Try.call41 (Zy (l := e.deps) (vl := de0) hde0 hS319) ?_)
  rintro v320 w321 ⟨_, rfl, hS322⟩
  have hr323 := hS322.row (i := 0) rfl
  have hr323s : _ * 8 ≤ _ := hr323.2
  refine st (yB rfl ?_)
  refine stn (yd (v := v320) (c := [.int .i64 (e.origin), .int .i64 (e.seq), .int .i64 (e.lam), de0, .int .i64 (e.typ), .int .i64 (e.agg), .int .i64 (e.field), .int .i64 (e.op), .int .i64 (e.arg), .int .i64 (e.key)]) (c' := [.int .i64 (e.origin), .int .i64 (e.seq), .int .i64 (e.lam), v320, .int .i64 (e.typ), .int .i64 (e.agg), .int .i64 (e.field), .int .i64 (e.op), .int .i64 (e.arg), .int .i64 (e.key)]) Try.sizeOf34 rfl rfl (hS322.blk (i := 1) rfl) hr323.1.one rfl rfl ?_)
  intro w324 hp325
  have ok326 : Ev.Ok e := ⟨(show InR (e.origin) from oe.origin), (show InR (e.seq) from oe.seq), (show InR (e.lam) from oe.lam), (show InR (e.typ) from oe.typ), (show InR (e.agg) from oe.agg), (show InR (e.field) from oe.field), (show InR (e.op) from oe.op), (show InR (e.arg) from oe.arg), (show InR (e.key) from oe.key)⟩
  have hS327 := hS322.pt1 hp325
  refine ze ?_
  refine zc ?_
  refine zM ((fun pp0 pp1 pp2 => WF [fun vals wq => Sep G W (pp0 :: pp1 :: pp2 :: (EvW vl1 36 3 B) :: Rs) wq, fun vals wq => ∃ (ix387 : Nat) (fd388 : Bool), (vals 5 = (.tuple #[.int .i64 ((ix387 : Nat) : Int), .bool fd388] : Value)) ∧ (ix387 ≤ B.length ∧ (∀ q, q < ix387 → yt (B.getD q default) e < 0) ∧ (∀ q, ix387 ≤ q → q < B.length → ¬ yt (B.getD q default) e < 0)) ∧ Sep G W ((EvW vl1 36 3 B) :: pp0 :: pp1 :: pp2 :: Rs) wq]) (RowE (α := Int) own 3 v320 e.deps) (Blk b5 (e.cells v320).toArray 36) (Blk b #[.int .i64 (most), vl1] 61)) (AF [Vl 0 (.pointer (some ⟨b, 0, none⟩)), Vl 1 (.pointer (some ⟨b, 0, none⟩)), Vl 2 (.pointer (some ⟨b, 1, none⟩)), Vl 3 (vl1), Vl 4 (.agg (e.cells v320).toArray), fun _ => True, fun vals => ∀ (ix387 : Nat) (fd388 : Bool), vals 5 = (.tuple #[.int .i64 ((ix387 : Nat) : Int), .bool fd388] : Value) → vals 6 = (.tuple #[.int .i64 ((ix387 : Nat) : Int), .bool fd388] : Value), fun vals => ∀ (ix387 : Nat) (fd388 : Bool), vals 5 = (.tuple #[.int .i64 ((ix387 : Nat) : Int), .bool fd388] : Value) → vals 7 = (.int .i64 ((ix387 : Nat) : Int) : Value), fun vals => ∀ (ix387 : Nat) (fd388 : Bool), vals 5 = (.tuple #[.int .i64 ((ix387 : Nat) : Int), .bool fd388] : Value) → vals 8 = (.bool fd388 : Value), fun vals => ∀ (ix387 : Nat) (fd388 : Bool), vals 5 = (.tuple #[.int .i64 ((ix387 : Nat) : Int), .bool fd388] : Value) → vals 9 = (.int .i64 ((ix387 : Nat) : Int) : Value), fun vals => ∀ (ix387 : Nat) (fd388 : Bool), vals 5 = (.tuple #[.int .i64 ((ix387 : Nat) : Int), .bool fd388] : Value) → vals 10 = (.bool fd388 : Value)]) [[], [0], [0, 1], [0, 1, 2], [], [0, 1, 2, 3, 4], [0, 1, 2, 3, 4, 5], [0, 1, 2, 3, 4, 5, 6], [0, 1, 2, 3, 4, 5, 6], [0, 1, 2, 3, 4, 5, 6, 7], [0, 1, 2, 3, 4, 5, 6, 7, 8, 9]] [5] [(0, 0), (0, 0), (0, 0), (0, 0), (0, 0), (0, 0), (1, 1), (1, 1), (1, 1), (1, 1), (1, 1)] (by kernel_rfl) (by kernel_rfl) (by kernel_rfl) rfl (by kernel_rfl) (by kernel_rfl) (fun _ h1 h2 h3 h4 _ => hS327.same h1 h2 h3 h4) ?_ (yc ⟨dA, dA, dA, dA, dA, dT, fun vals vals' hv h => fun ix387 fd388 hq0 => (hv 6 (.inl rfl)).trans (h ix387 fd388 ((hv 5 (.inr (by decide))).symm.trans hq0)), fun vals vals' hv h => fun ix387 fd388 hq0 => (hv 7 (.inl rfl)).trans (h ix387 fd388 ((hv 5 (.inr (by decide))).symm.trans hq0)), fun vals vals' hv h => fun ix387 fd388 hq0 => (hv 8 (.inl rfl)).trans (h ix387 fd388 ((hv 5 (.inr (by decide))).symm.trans hq0)), fun vals vals' hv h => fun ix387 fd388 hq0 => (hv 9 (.inl rfl)).trans (h ix387 fd388 ((hv 5 (.inr (by decide))).symm.trans hq0)), fun vals vals' hv h => fun ix387 fd388 hq0 => (hv 10 (.inl rfl)).trans (h ix387 fd388 ((hv 5 (.inr (by decide))).symm.trans hq0)), trivial⟩) ⟨?_, ?_, ?_, ?_, ?_, ?_, ?_, ?_, ?_, ?_, ?_, trivial⟩ ?_
  ·intro k vals vals' w hv h
   have e : ∀ j ∈ ([5] : List Nat), vals' j = vals j := hv
   match k, h with
   | 0, h => exact h
   | 1, h => exact (by simpa only [WF, List.getElem?_cons_zero, List.getElem?_cons_succ, e 5 (by decide)] using h)
   | _ + 2, _ => trivial
  ·intro k434 vals w435 h438 h439 hW437 hA436
   refine obl rfl ?_
   exact zb (v := .pointer (some ⟨b, 0, none⟩)) rfl (fun vals' hv _ => ⟨rfl, hv⟩)
  ·intro k440 vals w441 h444 h445 hW443 hA442
   have e446 := hA442 0 (by decide)
   refine obl rfl ?_
   exact zn (b := b) (o := 0) e446 (fun vals' hv _ => ⟨rfl, hv⟩)
  ·intro k447 vals w448 h451 h452 hW450 hA449
   have e453 := hA449 1 (by decide)
   refine obl rfl ?_
   exact xl e453 (fun vals' hv _ => ⟨rfl, hv⟩)
  ·intro k454 vals w455 h458 h459 hW457 hA456
   obtain rfl : k454 = 0 := Nat.le_antisymm h459 h458
   have hS460 : Sep _ _ _ _ := hW457
   have e461 := hA456 2 (by decide)
   refine obl rfl ?_
   exact zg (v := vl1) Try.isAgg22 e461 (zf (hS460.blk (i := 2) rfl) rfl) (fun vals' hv _ => ⟨rfl, hv⟩)
  ·intro k462 vals w463 h466 h467 hW465 hA464
   obtain rfl : k462 = 0 := Nat.le_antisymm h467 h466
   have hS468 : Sep _ _ _ _ := hW465
   refine obl rfl ?_
   exact zr (k := 10) Try.isAgg36 Try.sizeOf36 rfl rfl (CellsAt.all (hS468.blk (i := 1) rfl)) (fun vals' hv _ => ⟨rfl, hv⟩)
  ·intro k363 vals w364 h367 h368 hW366 hA365
   obtain rfl : k363 = 0 := Nat.le_antisymm h368 h367
   have hS369 : Sep _ _ _ _ := hW366
   have e370 := hA365 3 (by decide)
   have e371 := hA365 4 (by decide)
   refine obl rfl ?_
   have hS372 := hS369.mv3
   obtain ⟨G373, hA375, hB376, hS377, hk378⟩ := hS372.lend
   have hrd379 := EvW.rd hA375
   have hrd379s : _ * 96 ≤ _ := hrd379.small
   obtain ⟨G380, hA382, hB383, hS384, hk385⟩ := hS377.lend
   have hrd386 := RowE.rd hA382
   have hrd386s : _ * 8 ≤ _ := hrd386.small
   refine (zj (f := 42) (vals := [vl1, .agg (e.cells v320).toArray, .func (.func 43) #[] #[]]) (cap := []) rfl (xc ⟨e370, e371, rfl, trivial⟩) Try.call42 (D_bsf (B := B) (vB := vl1) (e := e) (RdS.base hrd379 hB383) hrd386 ok326 hS384 (hsB)) ?_)
   rintro _ w390 ⟨ix387, fd388, rfl, hix389, hS391⟩
   have hS392 := hk385 _ _ hS391
   have hS393 := hk378 _ _ hS392
   intro vals' hv hv'
   refine ⟨?_, trivial⟩
   show ∃ (ix387 : Nat) (fd388 : Bool), (vals' 5 = (.tuple #[.int .i64 ((ix387 : Nat) : Int), .bool fd388] : Value)) ∧ (ix387 ≤ B.length ∧ (∀ q, q < ix387 → yt (B.getD q default) e < 0) ∧ (∀ q, ix387 ≤ q → q < B.length → ¬ yt (B.getD q default) e < 0)) ∧ Sep G W ((EvW vl1 36 3 B) :: (RowE (α := Int) own 3 v320 e.deps) :: (Blk b5 (e.cells v320).toArray 36) :: (Blk b #[.int .i64 (most), vl1] 61) :: Rs) w390
   exact ⟨ix387, fd388, hv, hix389, hS393⟩
  ·intro k469 vals w470 h473 h474 hW472 hA471
   obtain rfl : k469 = 1 := Nat.le_antisymm h474 h473
   obtain ⟨ix387, fd388, he394, hix389, hS475⟩ := hW472
   refine obl rfl ?_
   refine zb (v := .tuple #[.int .i64 ((ix387 : Nat) : Int), .bool fd388]) he394 (fun vals' hv hv' => ⟨rfl, ?_⟩)
   intro ix387q fd388q hq0
   rw [hv' 5 (by decide)] at hq0; cases he394.symm.trans hq0
   exact hv
  ·intro k476 vals w477 h480 h481 hW479 hA478
   obtain rfl : k476 = 1 := Nat.le_antisymm h481 h480
   obtain ⟨ix387, fd388, he394, hix389, hS482⟩ := hW479
   have e483 : vals 6 = (.tuple #[.int .i64 ((ix387 : Nat) : Int), .bool fd388] : Value) := hA478 6 (by decide) ix387 fd388 he394
   refine obl rfl ?_
   refine zV (vs := [.int .i64 ((ix387 : Nat) : Int), .bool fd388]) (i := 0) (v := .int .i64 ((ix387 : Nat) : Int)) e483 rfl (fun vals' hv hv' => ⟨rfl, ?_⟩)
   intro ix387q fd388q hq0
   rw [hv' 5 (by decide)] at hq0; cases he394.symm.trans hq0
   exact hv
  ·intro k484 vals w485 h488 h489 hW487 hA486
   obtain rfl : k484 = 1 := Nat.le_antisymm h489 h488
   obtain ⟨ix387, fd388, he394, hix389, hS490⟩ := hW487
   have e491 : vals 6 = (.tuple #[.int .i64 ((ix387 : Nat) : Int), .bool fd388] : Value) := hA486 6 (by decide) ix387 fd388 he394
   refine obl rfl ?_
   refine zV (vs := [.int .i64 ((ix387 : Nat) : Int), .bool fd388]) (i := 1) (v := .bool fd388) e491 rfl (fun vals' hv hv' => ⟨rfl, ?_⟩)
   intro ix387q fd388q hq0
   rw [hv' 5 (by decide)] at hq0; cases he394.symm.trans hq0
   exact hv
  ·intro k492 vals w493 h496 h497 hW495 hA494
   obtain rfl : k492 = 1 := Nat.le_antisymm h497 h496
   obtain ⟨ix387, fd388, he394, hix389, hS498⟩ := hW495
   have e499 : vals 7 = (.int .i64 ((ix387 : Nat) : Int) : Value) := hA494 7 (by decide) ix387 fd388 he394
   refine obl rfl ?_
   refine zd (v := .int .i64 ((ix387 : Nat) : Int)) e499 (fun vals' hv hv' => ⟨rfl, ?_⟩)
   intro ix387q fd388q hq0
   rw [hv' 5 (by decide)] at hq0; cases he394.symm.trans hq0
   exact hv
  ·intro k500 vals w501 h504 h505 hW503 hA502
   obtain rfl : k500 = 1 := Nat.le_antisymm h505 h504
   obtain ⟨ix387, fd388, he394, hix389, hS506⟩ := hW503
   have e507 : vals 8 = (.bool fd388 : Value) := hA502 8 (by decide) ix387 fd388 he394
   refine obl rfl ?_
   refine zd (v := .bool fd388) e507 (fun vals' hv hv' => ⟨rfl, ?_⟩)
   intro ix387q fd388q hq0
   rw [hv' 5 (by decide)] at hq0; cases he394.symm.trans hq0
   exact hv
  intro vals w508 hW509 hA510
  obtain ⟨ix387, fd388, he394, hix389, hS511⟩ := hW509
  have e512 : vals 9 = (.int .i64 ((ix387 : Nat) : Int) : Value) := hA510 9 (by decide) ix387 fd388 he394
  refine yb (kv := [(0, .pointer (some ⟨b, 0, none⟩)), (1, .agg (e.cells de0).toArray), (3, .pointer (some ⟨b5, 0, none⟩)), (4, .bool false), (24, .bool false), (25, .pointer (some ⟨b5, 3, none⟩)), (26, de0), (27, v320), (28, .pointer (some ⟨b5, 3, none⟩)), (5, .int .i64 ((ix387 : Nat) : Int))]) ⟨rfl, rfl, rfl, rfl, rfl, rfl, rfl, rfl, rfl, (by exact e512), trivial⟩ (fun ρw508 => ?_)
  refine ze ?_
  refine zc ?_
  refine zM ((fun pp0 pp1 pp2 => WF [fun vals wq => Sep G W ((EvW vl1 36 3 B) :: pp0 :: pp1 :: pp2 :: Rs) wq, fun vals wq => ∃ (b569 : Nat), (vals 7 = ((.slice (some ⟨b569, 0, none⟩) 1 1) : Value)) ∧ Sep G W ((Blk b569 (e.cells v320).toArray 36) :: (EvW vl1 36 3 B) :: pp0 :: pp1 :: pp2 :: Rs) wq, fun vals wq => ∃ (b569 : Nat) (v2583 : Value), (vals 7 = ((.slice (some ⟨b569, 0, none⟩) 1 1) : Value)) ∧ (vals 8 = (v2583 : Value)) ∧ Sep G W ((EvW v2583 36 3 (B.take ix387 ++ [e] ++ B.drop ix387)) :: pp1 :: pp2 :: Rs) wq, fun vals wq => ∃ (b569 : Nat) (v2583 : Value), (vals 7 = ((.slice (some ⟨b569, 0, none⟩) 1 1) : Value)) ∧ (vals 8 = (v2583 : Value)) ∧ Sep G W ((EvW v2583 36 3 (B.take ix387 ++ [e] ++ B.drop ix387)) :: pp1 :: (Blk b #[.int .i64 (most), v2583] 61) :: Rs) wq]) (RowE (α := Int) own 3 v320 e.deps) (Blk b5 (e.cells v320).toArray 36) (Blk b #[.int .i64 (most), vl1] 61)) (AF [Vl 0 (.pointer (some ⟨b, 0, none⟩)), Vl 1 (.pointer (some ⟨b, 0, none⟩)), Vl 2 (.pointer (some ⟨b, 0, none⟩)), Vl 3 (.pointer (some ⟨b, 1, none⟩)), Vl 4 (vl1), Vl 5 (.int .i64 ((ix387 : Nat) : Int)), Vl 6 (.agg (e.cells v320).toArray), fun _ => True, fun _ => True, Vl 9 (.pointer (some ⟨b, 0, none⟩)), Vl 10 (.pointer (some ⟨b, 1, none⟩)), fun _ => True]) [[], [], [1], [1, 2], [1, 2, 3], [], [], [6], [1, 2, 3, 4, 5, 6, 7], [0, 1, 2, 3, 4, 5, 6, 7, 8], [0, 1, 2, 3, 4, 5, 6, 7, 8, 9], [0, 1, 2, 3, 4, 5, 6, 7, 8, 9, 10]] [7, 8, 11] [(0, 2), (0, 1), (0, 1), (0, 1), (0, 1), (0, 1), (0, 0), (0, 0), (1, 1), (2, 2), (2, 2), (2, 2)] (by kernel_rfl) (by kernel_rfl) (by kernel_rfl) rfl (by kernel_rfl) (by kernel_rfl) (fun _ h1 h2 h3 h4 _ => hS511.same h1 h2 h3 h4) ?_ (yc ⟨dA, dA, dA, dA, dA, dA, dA, dT, dT, dA, dA, dT, trivial⟩) ⟨?_, ?_, ?_, ?_, ?_, ?_, ?_, ?_, ?_, ?_, ?_, ?_, trivial⟩ ?_
  ·intro k vals vals' w hv h
   have e : ∀ j ∈ ([7, 8, 11] : List Nat), vals' j = vals j := hv
   match k, h with
   | 0, h => exact h
   | 1, h => exact (by simpa only [WF, List.getElem?_cons_zero, List.getElem?_cons_succ, e 7 (by decide)] using h)
   | 2, h => exact (by simpa only [WF, List.getElem?_cons_zero, List.getElem?_cons_succ, e 7 (by decide), e 8 (by decide)] using h)
   | 3, h => exact (by simpa only [WF, List.getElem?_cons_zero, List.getElem?_cons_succ, e 7 (by decide), e 8 (by decide)] using h)
   | _ + 4, _ => trivial
  ·intro k612 vals w613 h616 h617 hW615 hA614
   refine obl rfl ?_
   exact zb (v := .pointer (some ⟨b, 0, none⟩)) rfl (fun vals' hv _ => ⟨rfl, hv⟩)
  ·intro k618 vals w619 h622 h623 hW621 hA620
   refine obl rfl ?_
   exact zb (v := .pointer (some ⟨b, 0, none⟩)) rfl (fun vals' hv _ => ⟨rfl, hv⟩)
  ·intro k624 vals w625 h628 h629 hW627 hA626
   have e630 := hA626 1 (by decide)
   refine obl rfl ?_
   exact zn (b := b) (o := 0) e630 (fun vals' hv _ => ⟨rfl, hv⟩)
  ·intro k631 vals w632 h635 h636 hW634 hA633
   have e637 := hA633 2 (by decide)
   refine obl rfl ?_
   exact xl e637 (fun vals' hv _ => ⟨rfl, hv⟩)
  ·intro k638 vals w639 h642 h643 hW641 hA640
   have hkk : k638 = 0 ∨ k638 = 1 := by have h1 : 0 ≤ k638 := h642; have h2 : k638 ≤ 1 := h643; omega
   rcases hkk with rfl | rfl
   ·skip
    have hS644 : Sep _ _ _ _ := hW641
    have e645 := hA640 3 (by decide)
    refine obl rfl ?_
    exact zg (v := vl1) Try.isAgg22 e645 (zf (hS644.blk (i := 3) rfl) rfl) (fun vals' hv _ => ⟨rfl, hv⟩)
   ·skip
    obtain ⟨b569, he572, hS646⟩ := hW641
    have e647 := hA640 3 (by decide)
    refine obl rfl ?_
    exact zg (v := vl1) Try.isAgg22 e647 (zf (hS646.blk (i := 4) rfl) rfl) (fun vals' hv _ => ⟨rfl, hv⟩)
  ·intro k648 vals w649 h652 h653 hW651 hA650
   refine obl rfl ?_
   exact zb (v := .int .i64 ((ix387 : Nat) : Int)) rfl (fun vals' hv _ => ⟨rfl, hv⟩)
  ·intro k654 vals w655 h658 h659 hW657 hA656
   obtain rfl : k654 = 0 := Nat.le_antisymm h659 h658
   have hS660 : Sep _ _ _ _ := hW657
   refine obl rfl ?_
   exact zr (k := 10) Try.isAgg36 Try.sizeOf36 rfl rfl (CellsAt.all (hS660.blk (i := 2) rfl)) (fun vals' hv _ => ⟨rfl, hv⟩)
  ·intro k560 vals w561 h564 h565 hW563 hA562
   obtain rfl : k560 = 0 := Nat.le_antisymm h565 h564
   have hS566 : Sep _ _ _ _ := hW563
   have e567 := hA562 6 (by decide)
   refine obl rfl ?_
   refine (zD (k := 10) (parts' := [(0, .agg (e.cells v320).toArray)]) (c := (e.cells v320).toArray) Try.underlying22 Try.sizeOf36 Try.zeroValue36 (by decide) (Ve ⟨rfl, e567, trivial⟩) (by kernel_rfl) ?_)
   intro w570 b569 hn568
   have hS571 := hS566.new hn568
   intro vals' hv hv'
   refine ⟨?_, trivial⟩
   show ∃ (b569 : Nat), (vals' 7 = ((.slice (some ⟨b569, 0, none⟩) 1 1) : Value)) ∧ Sep G W ((Blk b569 (e.cells v320).toArray 36) :: (EvW vl1 36 3 B) :: (RowE (α := Int) own 3 v320 e.deps) :: (Blk b5 (e.cells v320).toArray 36) :: (Blk b #[.int .i64 (most), vl1] 61) :: Rs) w570
   exact ⟨b569, hv, hS571⟩
  ·intro k573 vals w574 h577 h578 hW576 hA575
   obtain rfl : k573 = 1 := Nat.le_antisymm h578 h577
   obtain ⟨b569, he572, hS579⟩ := hW576
   have e580 := hA575 4 (by decide)
   have e581 := hA575 5 (by decide)
   refine obl rfl ?_
   have hS582 := hS579.mv1
   refine (zj (f := 44) (vals := [vl1, .int .i64 ((ix387 : Nat) : Int), (.slice (some ⟨b569, 0, none⟩) 1 1)]) (cap := []) rfl (xc ⟨e580, e581, he572, trivial⟩) Try.call44 (D_ins (i := ix387) (by first | omega | (refine ⟨?_, ?_⟩ <;> omega)) ok326 hS582 (by first | omega | (simp only [lens]; omega))) ?_)
   rintro v2583 w584 ⟨_, rfl, hS585⟩
   intro vals' hv hv'
   refine ⟨?_, trivial⟩
   show ∃ (b569 : Nat) (v2583 : Value), (vals' 7 = ((.slice (some ⟨b569, 0, none⟩) 1 1) : Value)) ∧ (vals' 8 = (v2583 : Value)) ∧ Sep G W ((EvW v2583 36 3 (B.take ix387 ++ [e] ++ B.drop ix387)) :: (Blk b5 (e.cells v320).toArray 36) :: (Blk b #[.int .i64 (most), vl1] 61) :: Rs) w584
   exact ⟨b569, v2583, (by rw [hv' 7 (by decide)]; exact he572), hv, hS585⟩
  ·intro k661 vals w662 h665 h666 hW664 hA663
   have e667 := hA663 0 (by decide)
   refine obl rfl ?_
   exact zn (b := b) (o := 0) e667 (fun vals' hv _ => ⟨rfl, hv⟩)
  ·intro k668 vals w669 h672 h673 hW671 hA670
   have e674 := hA670 9 (by decide)
   refine obl rfl ?_
   exact xl e674 (fun vals' hv _ => ⟨rfl, hv⟩)
  ·intro k601 vals w602 h605 h606 hW604 hA603
   obtain rfl : k601 = 2 := Nat.le_antisymm h606 h605
   obtain ⟨b569, v2583, he572, he586, hS607⟩ := hW604
   have e608 := hA603 10 (by decide)
   refine obl rfl ?_
   refine (yd (v := v2583) (c := [.int .i64 (most), vl1]) (c' := [.int .i64 (most), v2583]) Try.sizeOf22 e608 he586 (hS607.blk (i := 2) rfl) (hS607.evwSl (i := 0) rfl).1.one rfl rfl ?_)
   intro w609 hp610
   have hS611 := hS607.pt2 hp610
   intro vals' hv hv'
   refine ⟨?_, trivial⟩
   show ∃ (b569 : Nat) (v2583 : Value), (vals' 7 = ((.slice (some ⟨b569, 0, none⟩) 1 1) : Value)) ∧ (vals' 8 = (v2583 : Value)) ∧ Sep G W ((EvW v2583 36 3 (B.take ix387 ++ [e] ++ B.drop ix387)) :: (Blk b5 (e.cells v320).toArray 36) :: (Blk b #[.int .i64 (most), v2583] 61) :: Rs) w609
   exact ⟨b569, v2583, (by rw [hv' 7 (by decide)]; exact he572), (by rw [hv' 8 (by decide)]; exact he586), hS611⟩
  intro vals w675 hW676 hA677
  obtain ⟨b569, v2583, he572, he586, hS678⟩ := hW676
  refine yb (kv := [(0, .pointer (some ⟨b, 0, none⟩)), (1, .agg (e.cells de0).toArray), (3, .pointer (some ⟨b5, 0, none⟩)), (4, .bool false), (24, .bool false), (25, .pointer (some ⟨b5, 3, none⟩)), (26, de0), (27, v320), (28, .pointer (some ⟨b5, 3, none⟩)), (5, .int .i64 ((ix387 : Nat) : Int))]) ⟨rfl, rfl, rfl, rfl, rfl, rfl, rfl, rfl, rfl, rfl, trivial⟩ (fun ρw675 => ?_)
  refine ze ?_
  refine zc ?_
  rw [KL hc318r hix389] at hS678
  have hS679 : Sep G W ((EvW v2583 36 3 (yj e B)) :: (Blk b5 (e.cells v320).toArray 36) :: (Blk b #[.int .i64 (most), v2583] 61) :: Rs) w675 := hS678
  refine za (by kernel_rfl) (fun _ => ?_)
  refine st (zd (v := .bool true) rfl ?_)
  refine ze ?_
  refine zw ?_
  refine zL Try.results14 (show _ = (.bool true : Value) from rfl) ?_
  have hS680 := hS679.mv2
  have hS681 : Sep G W ((BufO b most (yj e B)) :: (Blk b5 (e.cells v320).toArray 36) :: Rs) w675 := BufO.close (most := most) (B := (yj e B)) hS680
  have hS682 : Sep G W ((BufO b most (yj e B)) :: Rs) w675 := hS681.sel 2 [0] (Nat.le_add_left _ _) rfl rfl
  refine ⟨(yj e B), ?_, ?_, hS682⟩
  · rw [(Xb hc318r).1]
  · rw [(Xb hc318r).2]
 ·skip
  have hc318r := hc318
  try simp only [zx] at hc318
  refine zk rfl ?_
  refine zc ?_
  refine za (by kernel_rfl) (fun _ => ?_)
  refine st (zd (v := .bool false) rfl ?_)
  refine ze ?_
  refine zw ?_
  refine zL Try.results14 (show _ = (.bool false : Value) from rfl) ?_
  have hS683 := hk13 _ _ hS316
  have hS684 : Sep G W ((Blk b #[.int .i64 (most), vl1] 61) :: (EvW vl1 36 3 B) :: (Blk b5 (e.cells de0).toArray 36) :: Rs) w313 := hS683.sel 3 [1, 2, 0] (Nat.le_add_left _ _) rfl rfl
  have hS685 : Sep G W ((BufO b most B) :: (Blk b5 (e.cells de0).toArray 36) :: Rs) w313 := BufO.close (most := most) (B := B) hS684
  have hS686 : Sep G W ((BufO b most B) :: Rs) w313 := hS685.sel 2 [0] (Nat.le_add_left _ _) rfl rfl
  refine ⟨B, ?_, ?_, hS686⟩
  · rw [(XM hc318r).1]
  · rw [(XM hc318r).2]

theorem xk {G : Nat → Prop} {W w : World} {Rs : List HP} {b : Nat} {most : Int} {B : List Ev} {e : Ev} {de0 : Value} (hde0 : RdS W G de0 e.deps) (oe : e.Ok) (hS0 : Sep G W ((BufO b most B) :: Rs) w) (hmost : InR most) (hsB : Srt B) (hBl : B.length ≤ 1000000) : Ret Try.prog 14 [.pointer (some ⟨b, 0, none⟩), .agg (e.cells de0).toArray] w (fun r w' => r = (.bool ((ya most B e)) : Value) ∧ Sep G W ((BufO b most (yF most B e)) :: Rs) w') := by
  refine Ret.mono (JF hde0 oe hS0 hmost hsB hBl) ?_
  rintro r w' ⟨B1, h1, h2, h3⟩
  subst h2
  exact ⟨h1, h3⟩

end Go.Proofs.Ytmiihhbeclhaoaa
end

section
/- Steps of the proofs of this seat: part D6. -/
set_option maxRecDepth 8000
set_option maxHeartbeats 4000000
namespace Go.Proofs.Ytmiihhbeclhaoaa
open Go.Proofs Go.RowKit

theorem Uc : ∀ u ∈ zc0, u.oneCell' = true := yU ⟨rfl, rfl, rfl, rfl, rfl, rfl, rfl, rfl, rfl, rfl, trivial⟩
def zA (T : List Ev) (e : Ev) : Bool := (zq T (e.origin, e.seq)).isSome
def Jl (p : Ev → Bool) (B : List Ev) (c : Int) : Prop := (c = -1 ∧ ∀ i, i < B.length → p (B.getD i default) = false) ∨ ∃ q : Nat, c = (q : Int) ∧ q < B.length ∧ p (B.getD q default) = true ∧ ∀ i, i < q → p (B.getD i default) = false
theorem Jb {G : Nat → Prop} {W w : World} {Rs : List HP} {e : Ev} {de0 : Value} (hde0 : RdS W G de0 e.deps) (oe : e.Ok) {bx bt n : Nat} {T : List Ev} (hbx : (Blk bx #[.pointer (some ⟨bt, 0, none⟩)] 26).p W G) (hT : (SetO bt n T).p W G) (hS0 : Sep G W Rs w) : Ret Try.prog 46 [.agg (e.cells de0).toArray, .pointer (some ⟨bx, 0, none⟩)] w (fun r w' => r = (.bool ((zA T e)) : Value) ∧ Sep G W Rs w') := by
 have hde0s : _ * 8 ≤ _ := hde0.small
 refine zp (args := [.agg (e.cells de0).toArray, .pointer (some ⟨bx, 0, none⟩)]) Try.func46 rfl rfl ?_
 refine zc ?_
 refine za (by kernel_rfl) (fun _ => ?_)
 refine st (yg (v := .agg (e.cells de0).toArray) rfl ?_)
 intro w3 b2 hn1
 have hS4 := hS0.new hn1
 refine st (zd (v := .bool false) rfl ?_)
 refine ze ?_
 refine zc ?_
 refine za (by kernel_rfl) (fun _ => ?_)
 refine st (zg (v := .pointer (some ⟨bt, 0, none⟩)) Try.isAgg26 rfl (zf (hS4.gblk hbx) rfl) ?_)
 refine st (zS rfl ?_)
 refine st (zr (k := 2) (cs := [.int .i64 (e.origin), .int .i64 (e.seq)]) Try.isAgg33 Try.sizeOf33 rfl rfl (CellsAt.sub (CellsAt.all (hS4.blk (i := 0) rfl)) 0 (cs2 := [.int .i64 (e.origin), .int .i64 (e.seq)]) rfl) ?_)
 refine st (zj (f := 15) (vals := [.pointer (some ⟨bt, 0, none⟩), .agg #[.int .i64 (e.origin), .int .i64 (e.seq)]]) (cap := []) rfl rfl Try.call15 (Ja  hT oe.origin oe.seq hS4) ?_)
 rintro _ w7 ⟨v5, rfl, hgo6, hS8⟩
 have hr9 := hS8.row (i := 0) rfl
 have hr9s : _ * 8 ≤ _ := hr9.2
 refine st (zb (v := .tuple #[.agg (((zq T (e.origin, e.seq)).getD default).cells v5).toArray, .bool (zq T (e.origin, e.seq)).isSome]) rfl ?_)
 refine st (zV (vs := [.agg (((zq T (e.origin, e.seq)).getD default).cells v5).toArray, .bool ((zq T (e.origin, e.seq)).isSome)]) (i := 0) (v := .agg (((zq T (e.origin, e.seq)).getD default).cells v5).toArray) rfl rfl ?_)
 refine st (zV (vs := [.agg (((zq T (e.origin, e.seq)).getD default).cells v5).toArray, .bool ((zq T (e.origin, e.seq)).isSome)]) (i := 1) (v := .bool ((zq T (e.origin, e.seq)).isSome)) rfl rfl ?_)
 refine st (ye Try.zeroValue36 ?_)
 intro w12 b11 hn10
 have hS13 := hS8.new hn10
 refine stn (zY (v := .agg (((zq T (e.origin, e.seq)).getD default).cells v5).toArray) (c' := (((zq T (e.origin, e.seq)).getD default).cells v5).toArray) Try.sizeOf36 rfl rfl (hS13.blk (i := 0) rfl) (yU ⟨rfl, rfl, rfl, hr9.1.one, rfl, rfl, rfl, rfl, rfl, rfl, trivial⟩) (Nat.le_of_ble_eq_true rfl) rfl ?_)
 intro w14 hp15
 have hS16 := hS13.pt0 hp15
 refine st (zd (v := .bool ((zq T (e.origin, e.seq)).isSome)) rfl ?_)
 refine ze ?_
 refine zc ?_
 refine za (by kernel_rfl) (fun _ => ?_)
 refine st (zb (v := .bool ((zq T (e.origin, e.seq)).isSome)) rfl ?_)
 refine st (zd (v := .bool ((zq T (e.origin, e.seq)).isSome)) rfl ?_)
 refine ze ?_
 refine zw ?_
 refine zL Try.results46 (show _ = (.bool ((zq T (e.origin, e.seq)).isSome) : Value) from rfl) ?_
 have hS17 : Sep G W Rs w14 := hS16.sel 3 [] (Nat.le_add_left _ _) rfl rfl
 refine ⟨rfl, hS17⟩

theorem Qb {G : Nat → Prop} {W w : World} {Rs : List HP} {vB : Value} {B : List Ev} (hB : RdS W G vB B) {bx bt n : Nat} {T : List Ev} (hbx : (Blk bx #[.pointer (some ⟨bt, 0, none⟩)] 26).p W G) (hT : (SetO bt n T).p W G) (hS0 : Sep G W Rs w) : Ret Try.prog 49 [vB, .func (.func 46) #[] #[.pointer (some ⟨bx, 0, none⟩)]] w (fun r w' => ∃ (c : Int), r = (.int .i64 (c) : Value) ∧ (InR c) ∧ (Jl (zA T) B c) ∧ Sep G W Rs w') := by
 have hBs : _ * 96 ≤ _ := hB.small
 refine zp (args := [vB, .func (.func 46) #[] #[.pointer (some ⟨bx, 0, none⟩)]]) Try.func49 rfl rfl ?_
 refine zc ?_
 refine za (by kernel_rfl) (fun _ => ?_)
 refine st (zd (v := .int .i64 (0)) rfl ?_)
 refine ze ?_
 refine zc ?_
 refine zc ?_
 refine za (by kernel_rfl) (fun _ => ?_)
 refine st (zb (v := vB) rfl ?_)
 refine st (zJ (n := B.length) Try.underlying22 rfl hB.sl ?_)
 refine st (zb (v := .int .i64 (0)) rfl ?_)
 refine ze ?_
 refine zt ?_
 refine zP (fun mq σ wq => ∃ (k : Nat) (ρ : Env), mq = B.length - k ∧ σ = zQ ρ [(0, vB), (1, .func (.func 46) #[] #[.pointer (some ⟨bx, 0, none⟩)]), (7, .int .i64 ((B.length : Nat) : Int)), (8, .int .i64 ((k : Nat) : Int))] ∧ (k ≤ B.length) ∧ (∀ i, i < k → zA T (B.getD i default) = false) ∧ Sep G W Rs wq) ⟨0, _, rfl, zh ⟨rfl, rfl, rfl, rfl, trivial⟩, Nat.zero_le _, (fun i h => absurd h (Nat.not_lt_zero i)), hS0⟩ ?_
 rintro m2 σ3 w1 ⟨k, ρl1, rfl, rfl, hkk, hm, hS4⟩
 refine zc ?_
 refine za (by kernel_rfl) (fun _ => ?_)
 refine st (zH (k := .i64) (a := ((k : Nat) : Int)) (b := ((B.length : Nat) : Int)) rfl rfl ?_)
 refine ze ?_
 refine zc ?_
 cases hc5 : decide (((k : Nat) : Int) < ((B.length : Nat) : Int))
 ·skip
  have hc5 := of_decide_eq_false hc5
  refine zi rfl ?_
  refine zO ?_
  refine zF ?_
  refine zc ?_
  refine za (by kernel_rfl) (fun _ => ?_)
  refine st (zd (v := .int .i64 (-1)) rfl ?_)
  refine ze ?_
  refine zw ?_
  refine zL Try.results49 (show _ = (.int .i64 (-1) : Value) from rfl) ?_
  refine ⟨-1, ?_, ?_, ?_, hS4⟩
  · rfl
  · decide
  · exact .inl ⟨rfl, fun i hi => hm i (by omega)⟩
 ·skip
  have hc5 := of_decide_eq_true hc5
  refine zk rfl ?_
  refine zo ?_
  refine zc ?_
  refine zt ?_
  refine zc ?_
  refine za (by kernel_rfl) (fun _ => ?_)
  refine st (zb (v := .int .i64 ((k : Nat) : Int)) rfl ?_)
  refine st (zd (v := .int .i64 ((k : Nat) : Int)) rfl ?_)
  refine ze ?_
  refine zc ?_
  refine za (by kernel_rfl) (fun _ => ?_)
  refine st (zb (v := .func (.func 46) #[] #[.pointer (some ⟨bx, 0, none⟩)]) rfl ?_)
  refine st (zb (v := vB) rfl ?_)
  refine st (zb (v := .int .i64 ((k : Nat) : Int)) rfl ?_)
  have hi6 : k < B.length := (by first | omega | (simp only [lens]; omega))
  refine st (zl (k := 10) (i := k) Try.underlying22 Try.sizeOf36 rfl hB.sl rfl hi6 ?_)
  have hi8 : k < B.length := (by first | omega | (simp only [lens]; omega))
  obtain ⟨hce7, hde7_0, hoke7⟩ := hB.ev hi8
  rw [← zm default hi8] at hce7 hde7_0 hoke7
  have hsm9 : ((B.getD k default).deps).length * 8 ≤ 140737488355328 := hde7_0.small
  have hcw10 := hS4.cells hce7 (hB.foot (ne_of_lt hi8))
  refine st (zr (k := 10) Try.isAgg36 Try.sizeOf36 rfl rfl hcw10 ?_)
  refine st (zj (f := 46) (vals := [.agg ((B.getD k default).cells (zT W (sb vB) (so vB + k * 10 + 3))).toArray]) (cap := [.pointer (some ⟨bx, 0, none⟩)]) (show _ = (.func (.func 46) #[] #[.pointer (some ⟨bx, 0, none⟩)] : Value) from rfl) rfl Try.call46 (Jb (e := (B.getD k default)) (bx := bx) (bt := bt) (n := n) (T := T) hde7_0 hoke7 hbx hT hS4) ?_)
  rintro _ w11 ⟨rfl, hS12⟩
  refine ze ?_
  cases hc13 : (zA T (B.getD k default))
  ·skip
   refine zi rfl ?_
   refine zo ?_
   refine za (by kernel_rfl) (fun _ => ?_)
   have hr14 : InR ((k + 1 : Nat) : Int) := by first | omega | (simp only [lens]; omega)
   refine st (zB (r := ((k + 1 : Nat) : Int)) (k := .i64) (a := ((k : Nat) : Int)) (b := 1) rfl rfl (by rw [show (((k : Nat) : Int) + 1 : Int) = ((k + 1 : Nat) : Int) by first | omega | (simp only [lens]; omega)]; exact zy hr14) ?_)
   refine st (zb (v := .int .i64 ((k + 1 : Nat) : Int)) rfl ?_)
   refine ze ?_
   exact ⟨_, by omega, k + 1, _, rfl, zh ⟨rfl, rfl, rfl, rfl, trivial⟩, by omega, (yE hm hc13), hS12⟩
  ·skip
   refine zk rfl ?_
   refine zc ?_
   refine za (by kernel_rfl) (fun _ => ?_)
   refine st (zb (v := .int .i64 ((k : Nat) : Int)) rfl ?_)
   refine st (zd (v := .int .i64 ((k : Nat) : Int)) rfl ?_)
   refine ze ?_
   refine zw ?_
   refine zL Try.results49 (show _ = (.int .i64 ((k : Nat) : Int) : Value) from rfl) ?_
   refine ⟨((k : Nat) : Int), ?_, ?_, ?_, hS12⟩
   · rfl
   · show InR ((k : Nat) : Int); omega
   · exact .inr ⟨k, rfl, by omega, hc13, hm⟩

theorem ZJ {ps : List EvP} {B : List Ev} {j : Nat} (hp : ps.map (·.1) = B) (hj : j < B.length) : (ps.getD j default).1 = B.getD j default ∧ ps.getD j default ∈ ps ∧ j < ps.length := by
  have hl : j < ps.length := by rw [← hp, List.length_map] at hj; exact hj
  refine ⟨?_, by rw [zm _ hl]; exact List.getElem_mem hl, hl⟩
  rw [zm _ hl, zm _ hj]
  simp [← hp]
structure DelI (p : Ev → Bool) (ps : List EvP) (CS : List (List Value)) (n i j : Nat) : Prop where
  lt : i < j
  le : j ≤ n
  tk : CS.take i = yr ((ps.take j).filter fun s => !p s.1)
  rest : ∀ t, j ≤ t → t < n → CS[t]? = some (ps.getD t default).cells
theorem xY {ps : List EvP} {j : Nat} (hj : j < ps.length) : ps.take (j + 1) = ps.take j ++ [ps.getD j default] := by rw [List.take_succ_eq_append_getElem hj, zm _ hj]
theorem DelI.start {p : Ev → Bool} {ps : List EvP} {CS : List (List Value)} {n q : Nat} (ht : CS.take n = yr ps) (hl : ps.length = n) (hq : q < n) (hp : p (ps.getD q default).1 = true) (hm : ∀ i, i < q → p (ps.getD i default).1 = false) : DelI p ps CS n q (q + 1) := by
  refine ⟨Nat.lt_succ_self q, hq, ?_, fun t h1 h2 => ?_⟩
  · have h1 : (ps.take (q + 1)).filter (fun s => !p s.1) = ps.take q := by
      rw [xY (by omega), List.filter_append, List.filter_cons, if_neg (by rw [hp]; decide), List.filter_nil, List.append_nil, List.filter_eq_self]
      intro s hs
      obtain ⟨i, hi, rfl⟩ := List.getElem_of_mem hs
      rw [List.length_take] at hi
      have := hm i (by omega)
      rw [zm _ (by omega)] at this
      rw [List.getElem_take, this]; rfl
    rw [h1]
    have h2 : CS.take q = (CS.take n).take q := by rw [List.take_take, Nat.min_eq_left (by omega)]
    rw [h2, ht]; unfold yr; rw [List.map_take]
  · have h3 : (CS.take n)[t]? = some (ps.getD t default).cells := by rw [ht]; unfold yr; rw [List.getElem?_map, List.getElem?_eq_getElem (by omega), zm _ (by omega)]; rfl
    rw [List.getElem?_take, if_pos h2] at h3; exact h3
theorem DelI.keep {p : Ev → Bool} {ps : List EvP} {CS : List (List Value)} {n i j : Nat} (h : DelI p ps CS n i j) (hl : ps.length = n) (hn : n ≤ CS.length) (hj : j < n) (hp : p (ps.getD j default).1 = false) : DelI p ps (spl CS i [(ps.getD j default).cells]) n (i + 1) (j + 1) := by
  have hlt := h.lt
  refine ⟨by omega, hj, ?_, fun t h1 h2 => ?_⟩
  · have h3 := ZP (l := CS) (S := [(ps.getD j default).cells]) (o := i) (by show i + 1 ≤ _; omega)
    have h4 : i + [(ps.getD j default).cells].length = i + 1 := rfl
    rw [h4] at h3
    rw [h3, h.tk, xY (by omega), List.filter_append, List.filter_cons, if_pos (by rw [hp]; rfl), List.filter_nil]
    unfold yr; simp
  · have h5 := h.rest t (by omega) h2
    unfold spl
    rw [List.getElem?_append_right (by simp; omega), List.getElem?_drop]
    simp only [List.length_append, List.length_take, List.length_singleton]
    rw [show i + 1 + (t - (min i CS.length + 1)) = t by omega]; exact h5
theorem DelI.drop {p : Ev → Bool} {ps : List EvP} {CS : List (List Value)} {n i j : Nat} (h : DelI p ps CS n i j) (hl : ps.length = n) (hj : j < n) (hp : p (ps.getD j default).1 = true) : DelI p ps CS n i (j + 1) := by
  have hlt := h.lt
  refine ⟨by omega, hj, ?_, fun t h1 h2 => h.rest t (by omega) h2⟩
  rw [h.tk, xY (by omega), List.filter_append, List.filter_cons, if_neg (by rw [hp]; decide), List.filter_nil, List.append_nil]
theorem DelI.len {p : Ev → Bool} {ps : List EvP} {CS : List (List Value)} {n i j : Nat} (h : DelI p ps CS n i j) (hn : n ≤ CS.length) : ((ps.take j).filter fun s => !p s.1).length = i := by
  have := congrArg List.length h.tk
  unfold yr at this
  rw [List.length_take, List.length_map] at this
  have h1 := h.lt
  have h2 := h.le
  omega
theorem QY {p : Ev → Bool} {B : List Ev} (h : ∀ i, i < B.length → p (B.getD i default) = false) : B.filter (fun x => !p x) = B := by
  rw [List.filter_eq_self]
  intro x hx
  obtain ⟨i, hi, rfl⟩ := List.getElem_of_mem hx
  have := h i hi
  rw [zm _ hi] at this
  rw [this]; rfl
theorem QT {G : Nat → Prop} {W w : World} {Rs : List HP} {vB : Value} {B : List Ev} {bx bt n : Nat} {T : List Ev} (hbx : (Blk bx #[.pointer (some ⟨bt, 0, none⟩)] 26).p W G) (hT : (SetO bt n T).p W G) (hS0 : Sep G W ((EvW vB 36 3 B) :: Rs) w) : Ret Try.prog 47 [vB, .func (.func 46) #[] #[.pointer (some ⟨bx, 0, none⟩)]] w (fun r w' => ∃ (v2 : Value), r = (v2 : Value) ∧ Sep G W ((EvW v2 36 3 (B.filter (fun x => !zA T x))) :: Rs) w') := by
 refine zp (args := [vB, .func (.func 46) #[] #[.pointer (some ⟨bx, 0, none⟩)]]) Try.func47 rfl rfl ?_
 have hes1 : B.length * 96 ≤ 140737488355328 := (hS0.evwSl (i := 0) rfl).2
 refine zc ?_
 refine za (by kernel_rfl) (fun _ => ?_)
 refine st (zd (v := (.slice none 0 0)) rfl ?_)
 refine ze ?_
 refine zc ?_
 refine za (by kernel_rfl) (fun _ => ?_)
 refine st (zb (v := vB) rfl ?_)
 refine st (zb (v := .func (.func 46) #[] #[.pointer (some ⟨bx, 0, none⟩)]) rfl ?_)
 obtain ⟨G2, hA4, hB5, hS6, hk7⟩ := hS0.lend
 have hrd8 := EvW.rd hA4
 have hrd8s : _ * 96 ≤ _ := hrd8.small
 refine st (zj (f := 49) (vals := [vB, .func (.func 46) #[] #[.pointer (some ⟨bx, 0, none⟩)]]) (cap := []) rfl rfl Try.call49 (Qb (B := B) (vB := vB) (bx := bx) (bt := bt) (n := n) (T := T) hrd8 (Blk.base hbx hB5) (HP.base hT hB5) hS6) ?_)
 rintro _ w12 ⟨c9, rfl, hc910, hcn11, hS13⟩
 have hS14 := hk7 _ _ hS13
 refine st (zd (v := .int .i64 (c9)) rfl ?_)
 refine ze ?_
 refine zc ?_
 refine zc ?_
 rcases hcn11 with hf9 | hf9
 ·skip
  obtain ⟨hcv9, hno9⟩ := hf9
  refine za (by kernel_rfl) (fun _ => ?_)
  refine st (zb (v := .int .i64 (c9)) rfl ?_)
  have hkn15 : (decide (c9 = (-1))) = true := decide_eq_true (by omega)
  refine st (ZE (congrArg Value.bool hkn15) (fun K9 h9 => yq (k := .i64) (a := c9) (b := -1) rfl rfl h9) ?_)
  refine ze ?_
  refine zk rfl ?_
  refine zc ?_
  refine za (by kernel_rfl) (fun _ => ?_)
  refine st (zb (v := vB) rfl ?_)
  refine st (zd (v := vB) rfl ?_)
  refine ze ?_
  refine zw ?_
  refine zL Try.results47 (show _ = (vB : Value) from rfl) ?_
  rw [← QY (p := zA T) hno9] at hS14
  have hS16 : Sep G W ((EvW vB 36 3 (B.filter (fun x => !zA T x))) :: Rs) w12 := hS14
  refine ⟨vB, rfl, hS16⟩
 ·skip
  obtain ⟨q9, hcv9, hq9, hpq9, hmq9⟩ := hf9
  subst hcv9
  refine za (by kernel_rfl) (fun _ => ?_)
  refine st (zb (v := .int .i64 ((q9 : Nat) : Int)) rfl ?_)
  have hkn17 : (decide (((q9 : Nat) : Int) = (-1))) = false := decide_eq_false (by omega)
  refine st (ZE (congrArg Value.bool hkn17) (fun K9 h9 => yq (k := .i64) (a := ((q9 : Nat) : Int)) (b := -1) rfl rfl h9) ?_)
  refine ze ?_
  refine zi rfl ?_
  refine zo ?_
  refine zc ?_
  refine zc ?_
  obtain ⟨ps, hp9, hok9, hS18⟩ := hS14.evwFlat
  have hpl9 : ps.length = B.length := by rw [← hp9, List.length_map]
  obtain ⟨g, cap, CS, rfl, hCS9, hln9, htk9, hnc9, hcm9, hsm9, hS19⟩ := hS18.pOpen hpl9 (by omega)
  have hS20 := hS19.mv1
  obtain ⟨G21, hA23, hB24, hS25, hk26⟩ := hS20.lend
  have hdep9 := StarD.rd hA23
  obtain ⟨hfa9, _, _⟩ := ZJ hp9 hq9
  have hD0 : DelI (zA T) ps CS B.length q9 (q9 + 1) := DelI.start htk9 hpl9 hq9 (by rw [hfa9]; exact hpq9) (fun i hi => by rw [(ZJ hp9 (by omega)).1]; exact hmq9 i hi)
  refine za (by kernel_rfl) (fun _ => ?_)
  refine st (zb (v := .int .i64 ((q9 : Nat) : Int)) rfl ?_)
  have hr27 : InR ((q9 + 1 : Nat) : Int) := by first | omega | (simp only [lens]; omega)
  refine st (zB (r := ((q9 + 1 : Nat) : Int)) (k := .i64) (a := ((q9 : Nat) : Int)) (b := 1) rfl rfl (by rw [show (((q9 : Nat) : Int) + 1 : Int) = ((q9 + 1 : Nat) : Int) by first | omega | (simp only [lens]; omega)]; exact zy hr27) ?_)
  refine st (zd (v := .int .i64 ((q9 + 1 : Nat) : Int)) rfl ?_)
  refine ze ?_
  refine zt ?_
  refine zP (fun mq σ wq => ∃ (i9 : Nat) (j9 : Nat) (C9 : List (List Value)) (ρ : Env), mq = B.length - j9 ∧ σ = zQ ρ [(0, (.slice (some ⟨g, 0, none⟩) B.length cap)), (1, .func (.func 46) #[] #[.pointer (some ⟨bx, 0, none⟩)]), (5, .int .i64 ((i9 : Nat) : Int)), (6, .int .i64 ((j9 : Nat) : Int))] ∧ (Ck 10 C9) ∧ (C9.length = cap) ∧ (DelI (zA T) ps C9 B.length i9 j9) ∧ Sep G21 w12 ((CkB g C9 36) :: Rs) wq) ⟨q9, (q9 + 1), CS, _, rfl, zh ⟨rfl, rfl, rfl, rfl, trivial⟩, hCS9, hln9, hD0, hS25⟩ ?_
  rintro m29 σ30 w28 ⟨i9, j9, C9, ρl1, rfl, rfl, hC9, hL9, hD9, hS31⟩
  have hlt9 := hD9.lt
  have hle9 := hD9.le
  refine zc ?_
  refine zc ?_
  refine za (by kernel_rfl) (fun _ => ?_)
  refine st (zb (v := .int .i64 ((j9 : Nat) : Int)) rfl ?_)
  refine st (zb (v := (.slice (some ⟨g, 0, none⟩) B.length cap)) rfl ?_)
  refine st (zJ (n := B.length) Try.underlying22 rfl (⟨_, cap, rfl, (by omega), fun _ => ⟨_, _, rfl⟩⟩ : IsSl _ (B.length)) ?_)
  refine st (zH (k := .i64) (a := ((j9 : Nat) : Int)) (b := ((B.length : Nat) : Int)) rfl rfl ?_)
  refine ze ?_
  cases hc32 : decide (((j9 : Nat) : Int) < ((B.length : Nat) : Int))
  ·skip
   have hc32r := hc32
   have hc32 := of_decide_eq_false hc32
   refine zi rfl ?_
   refine zO ?_
   refine zF ?_
   refine zc ?_
   refine za (by kernel_rfl) (fun _ => ?_)
   refine st (zb (v := (.slice (some ⟨g, 0, none⟩) B.length cap)) rfl ?_)
   refine st (zb (v := .int .i64 ((i9 : Nat) : Int)) rfl ?_)
   refine st (yu (k := 10) (g := g) (n := B.length) (c := cap) (i := i9) (j := B.length) Try.underlying22 Try.sizeOf36 rfl (show _ = (.int .i64 ((i9 : Nat) : Int) : Value) from rfl) rfl (by omega) (by omega) (by omega) ?_)
   refine stn (XA (k := 10) (g := g) (CS := C9) (o := i9) (n := (B.length - i9)) Try.underlying22 Try.zeroValue36 ZY Uc (by decide) hS31 hC9 rfl (by rw [hL9]; omega) ?_)
   intro w33 hS34
   have hS34t : Sep G21 w12 ((CkB g (spl C9 i9 (List.replicate (B.length - i9) zc0)) 36) :: Rs) w33 := hS34
   refine ze ?_
   refine zc ?_
   refine za (by kernel_rfl) (fun _ => ?_)
   refine st (zb (v := (.slice (some ⟨g, 0, none⟩) B.length cap)) rfl ?_)
   refine st (zb (v := .int .i64 ((i9 : Nat) : Int)) rfl ?_)
   refine st (yu (k := 10) (g := g) (n := B.length) (c := cap) (i := 0) (j := i9) Try.underlying22 Try.sizeOf36 rfl rfl (show _ = (.int .i64 ((i9 : Nat) : Int) : Value) from rfl) (by omega) (by omega) (by omega) ?_)
   refine st (zd (v := (.slice (some ⟨g, 0, none⟩) i9 cap)) rfl ?_)
   refine ze ?_
   refine zw ?_
   refine zL Try.results47 (show _ = ((.slice (some ⟨g, 0, none⟩) i9 cap) : Value) from rfl) ?_
   have hS35 := hk26 _ _ hS34t
   have hS36 := hS35.mv1
   have hfl9 : ps.take j9 = ps := List.take_of_length_le (by omega)
   have hlf9 := hD9.len (by omega)
   rw [hfl9] at hlf9
   have htf9 := hD9.tk
   rw [hfl9] at htf9
   have hS37 := Sep.pClose (n := i9) (qs := (ps.filter fun s : EvP => !zA T s.1)) hS36 (Ck.spl (CS := C9) (A := (List.replicate (B.length - i9) zc0)) (o := i9) hC9 (Ck.rep ZY)) ((yL (l := C9) (S := (List.replicate (B.length - i9) zc0)) (o := i9) (by rw [List.length_replicate, hL9]; omega)).trans hL9) (by omega) hcm9 ((VO (Nat.le_refl _) (by omega)).trans htf9) (by omega) hlf9
   have hef9 : (ps.filter fun s : EvP => !zA T s.1).map (fun s : EvP => s.1) = B.filter (fun x => !zA T x) := by rw [← hp9]; exact (List.filter_map (f := fun s : EvP => s.1) (p := fun x => !zA T x) (l := ps)).symm
   have hS38 : Sep G W ((EvW (.slice (some ⟨g, 0, none⟩) i9 cap) 36 3 (B.filter (fun x => !zA T x))) :: Rs) w33 := Sep.evwOf ((Sep.starFil (fun s : EvP => !zA T s.1) (hS37.sel 2 [1, 0] (Nat.le_add_left _ _) rfl rfl)).sel 2 [1, 0] (Nat.le_add_left _ _) rfl rfl) hef9 (fun s hs => hok9 s (List.mem_filter.1 hs).1)
   refine ⟨(.slice (some ⟨g, 0, none⟩) i9 cap), rfl, hS38⟩
  ·skip
   have hc32r := hc32
   have hc32 := of_decide_eq_true hc32
   refine zk rfl ?_
   refine zo ?_
   refine zc ?_
   refine zt ?_
   refine zc ?_
   refine za (by kernel_rfl) (fun _ => ?_)
   refine st (zb (v := (.slice (some ⟨g, 0, none⟩) B.length cap)) rfl ?_)
   refine st (zb (v := .int .i64 ((j9 : Nat) : Int)) rfl ?_)
   have hi39 : j9 < B.length := by omega
   refine st ((ZE (show (.pointer (some ⟨g, 0 + j9 * 10, none⟩) : Value) = .pointer (some ⟨g, j9 * 10, none⟩) by rw [Nat.zero_add]) (fun K9 h9 => zl (k := 10) (i := j9) Try.underlying22 Try.sizeOf36 (show _ = ((.slice (some ⟨g, 0, none⟩) B.length cap) : Value) from rfl) (⟨_, cap, rfl, (by omega), fun _ => ⟨_, _, rfl⟩⟩ : IsSl _ (B.length)) (show _ = (.int .i64 ((j9 : Nat) : Int) : Value) from rfl) hi39 h9)) ?_)
   have hds40m := (ZJ hp9 (j := j9) (by omega)).2.1
   have hds40 := hdep9 _ hds40m
   have hds40o := hok9 _ hds40m
   have hds40s : _ * 8 ≤ _ := hds40.small
   refine st (zr (k := 10) Try.isAgg36 Try.sizeOf36 rfl rfl (Ka hS31 (q := 0) rfl hC9 (hD9.rest j9 (Nat.le_refl _) (by omega))) ?_)
   refine st (ye Try.zeroValue36 ?_)
   intro w43 b42 hn41
   have hS44 := hS31.new hn41
   refine stn (zY (v := .agg ((ps.getD j9 default).1.cells (ps.getD j9 default).2.1).toArray) (c' := ((ps.getD j9 default).1.cells (ps.getD j9 default).2.1).toArray) Try.sizeOf36 rfl rfl (hS44.blk (i := 0) rfl) (yU ⟨rfl, rfl, rfl, hds40.sl.one, rfl, rfl, rfl, rfl, rfl, rfl, trivial⟩) (Nat.le_of_ble_eq_true rfl) rfl ?_)
   intro w45 hp46
   have hS47 := hS44.pt0 hp46
   refine ze ?_
   refine zc ?_
   refine za (by kernel_rfl) (fun _ => ?_)
   refine st (zb (v := .func (.func 46) #[] #[.pointer (some ⟨bx, 0, none⟩)]) rfl ?_)
   refine st (zr (k := 10) Try.isAgg36 Try.sizeOf36 rfl rfl (CellsAt.all (hS47.blk (i := 0) rfl)) ?_)
   refine st (zj (f := 46) (vals := [.agg ((ps.getD j9 default).1.cells (ps.getD j9 default).2.1).toArray]) (cap := [.pointer (some ⟨bx, 0, none⟩)]) (show _ = (.func (.func 46) #[] #[.pointer (some ⟨bx, 0, none⟩)] : Value) from rfl) rfl Try.call46 (Jb (e := (ps.getD j9 default).1) (bx := bx) (bt := bt) (n := n) (T := T) hds40 hds40o (Blk.base hbx hB24) (HP.base hT hB24) hS47) ?_)
   rintro _ w48 ⟨rfl, hS49⟩
   refine st (yA (a := (zA T ((ps.getD j9 default).1))) rfl ?_)
   refine ze ?_
   cases hc50 : !(zA T ((ps.getD j9 default).1))
   ·skip
    have hc50r := hc50
    try simp only [zx] at hc50
    refine zi rfl ?_
    refine zo ?_
    refine za (by kernel_rfl) (fun _ => ?_)
    refine st (zb (v := .int .i64 ((j9 : Nat) : Int)) rfl ?_)
    have hr51 : InR ((j9 + 1 : Nat) : Int) := by first | omega | (simp only [lens]; omega)
    refine st (zB (r := ((j9 + 1 : Nat) : Int)) (k := .i64) (a := ((j9 : Nat) : Int)) (b := 1) rfl rfl (by rw [show (((j9 : Nat) : Int) + 1 : Int) = ((j9 + 1 : Nat) : Int) by first | omega | (simp only [lens]; omega)]; exact zy hr51) ?_)
    refine st (zd (v := .int .i64 ((j9 + 1 : Nat) : Int)) rfl ?_)
    refine ze ?_
    have hS52 : Sep G21 w12 ((CkB g C9 36) :: Rs) w48 := hS49.sel 2 [1] (Nat.le_add_left _ _) rfl rfl
    exact ⟨_, by omega, i9, j9 + 1, C9, _, rfl, zh ⟨rfl, rfl, rfl, rfl, trivial⟩, hC9, hL9, (hD9.drop hpl9 (by omega) (by simpa using hc50)), hS52⟩
   ·skip
    have hc50r := hc50
    try simp only [zx] at hc50
    refine zk rfl ?_
    refine zc ?_
    refine za (by kernel_rfl) (fun _ => ?_)
    refine st (zb (v := (.slice (some ⟨g, 0, none⟩) B.length cap)) rfl ?_)
    refine st (zb (v := .int .i64 ((i9 : Nat) : Int)) rfl ?_)
    refine st (zr (k := 10) Try.isAgg36 Try.sizeOf36 rfl rfl (CellsAt.all (hS49.blk (i := 0) rfl)) ?_)
    have hi53 : i9 < B.length := by omega
    refine st ((ZE (show (.pointer (some ⟨g, 0 + i9 * 10, none⟩) : Value) = .pointer (some ⟨g, i9 * 10, none⟩) by rw [Nat.zero_add]) (fun K9 h9 => zl (k := 10) (i := i9) Try.underlying22 Try.sizeOf36 (show _ = ((.slice (some ⟨g, 0, none⟩) B.length cap) : Value) from rfl) (⟨_, cap, rfl, (by omega), fun _ => ⟨_, _, rfl⟩⟩ : IsSl _ (B.length)) (show _ = (.int .i64 ((i9 : Nat) : Int) : Value) from rfl) hi53 h9)) ?_)
    have hS55 := hS49.mv1
    refine stn (Us (k := 10) (g := g) (CS := C9) (o := i9) (u := .agg ((ps.getD j9 default).1.cells (ps.getD j9 default).2.1).toArray) (us := ((ps.getD j9 default).1.cells (ps.getD j9 default).2.1)) hS55 hC9 Try.sizeOf36 rfl rfl rfl rfl (yU ⟨rfl, rfl, rfl, (ps.getD j9 default).2.2, rfl, rfl, rfl, rfl, rfl, rfl, trivial⟩) (by rw [hL9]; omega) ?_)
    intro w54 hS56
    refine ze ?_
    refine za (by kernel_rfl) (fun _ => ?_)
    refine st (zb (v := .int .i64 ((i9 : Nat) : Int)) rfl ?_)
    have hr57 : InR ((i9 + 1 : Nat) : Int) := by first | omega | (simp only [lens]; omega)
    refine st (zB (r := ((i9 + 1 : Nat) : Int)) (k := .i64) (a := ((i9 : Nat) : Int)) (b := 1) rfl rfl (by rw [show (((i9 : Nat) : Int) + 1 : Int) = ((i9 + 1 : Nat) : Int) by first | omega | (simp only [lens]; omega)]; exact zy hr57) ?_)
    refine st (zd (v := .int .i64 ((i9 + 1 : Nat) : Int)) rfl ?_)
    refine ze ?_
    refine za (by kernel_rfl) (fun _ => ?_)
    refine st (zb (v := .int .i64 ((j9 : Nat) : Int)) rfl ?_)
    have hr58 : InR ((j9 + 1 : Nat) : Int) := by first | omega | (simp only [lens]; omega)
    refine st (zB (r := ((j9 + 1 : Nat) : Int)) (k := .i64) (a := ((j9 : Nat) : Int)) (b := 1) rfl rfl (by rw [show (((j9 : Nat) : Int) + 1 : Int) = ((j9 + 1 : Nat) : Int) by first | omega | (simp only [lens]; omega)]; exact zy hr58) ?_)
    refine st (zd (v := .int .i64 ((j9 + 1 : Nat) : Int)) rfl ?_)
    refine ze ?_
    have hS59 : Sep G21 w12 ((CkB g (spl C9 i9 [((ps.getD j9 default).1.cells (ps.getD j9 default).2.1)]) 36) :: Rs) w54 := hS56.sel 2 [0] (Nat.le_add_left _ _) rfl rfl
    exact ⟨_, by omega, i9 + 1, j9 + 1, (spl C9 i9 [((ps.getD j9 default).1.cells (ps.getD j9 default).2.1)]), _, rfl, zh ⟨rfl, rfl, rfl, rfl, trivial⟩, (Ck.spl (CS := C9) (A := [((ps.getD j9 default).1.cells (ps.getD j9 default).2.1)]) (o := i9) hC9 (fun c hc => by rw [List.mem_singleton.1 hc]; rfl)), ((yL (l := C9) (S := [((ps.getD j9 default).1.cells (ps.getD j9 default).2.1)]) (o := i9) (by rw [hL9]; show i9 + 1 ≤ _; omega)).trans hL9), (hD9.keep hpl9 (by omega) (by omega) (by simpa using hc50)), hS59⟩

end Go.Proofs.Ytmiihhbeclhaoaa
end

section
/- Pieces: parts of a slice whose end may be the block's end; an element that goes. -/
namespace Go.Proofs.Ytmiihhbeclhaoaa
open Go.RowKit

section
variable {P : Program} {d : Option Tmp} {ty : TypeId} {pos : String} {af : Array Edge} {gd : Option (Nat × Bool)} {σ : Env} {w : World} {K : Value → World → Prop} {g k : Nat}
theorem Ux {t e : TypeId} {x y : Operand} {n c i : Nat} (hU : P.underlying t = some (.slice e)) (hS : ∀ w, (sizeOf e).run P w = .ok k w) (hx : ev σ x = .slice (some ⟨g, 0, none⟩) n c)
    (hlo : ev σ y = .int .i64 (i : Nat)) (hin : i ≤ n) (hnc : n ≤ c) (h : K (.slice (some ⟨g, if c = i then 0 else i * k, none⟩) (n - i) (c - i)) w) : opV P ⟨d, .slice t x (some y) none none, ty, pos, af, gd⟩ σ w K := by
  refine zN (v := .slice (some ⟨g, if c = i then 0 else i * k, none⟩) (n - i) (c - i)) (w' := w) ?_ h
  have hb : ¬ c < n := by omega
  have hb2 : ¬ n < i := by omega
  by_cases hc : c = i
  · simp [execOp, *, Instr.sliceAt, Instr.slice, Instr.sliceBounds, run_underlying hU, hS, go_sem, Addr.add_lit]
  · simp [execOp, *, Instr.sliceAt, Instr.slice, Instr.sliceBounds, run_underlying hU, hS, go_sem, Addr.add_lit]
theorem UY {t e : TypeId} {x y z u : Operand} {n c i j m : Nat} (hU : P.underlying t = some (.slice e)) (hS : ∀ w, (sizeOf e).run P w = .ok k w) (hx : ev σ x = .slice (some ⟨g, 0, none⟩) n c)
    (hlo : ev σ y = .int .i64 (i : Nat)) (hhi : ev σ z = .int .i64 (j : Nat)) (hmx : ev σ u = .int .i64 (m : Nat)) (hij : i ≤ j) (hjm : j ≤ m) (hmc : m ≤ c) (h : K (.slice (some ⟨g, if m = i then 0 else i * k, none⟩) (j - i) (m - i)) w) : opV P ⟨d, .slice t x (some y) (some z) (some u), ty, pos, af, gd⟩ σ w K := by
  refine zN (v := .slice (some ⟨g, if m = i then 0 else i * k, none⟩) (j - i) (m - i)) (w' := w) ?_ h
  have hb : ¬ c < m := by omega
  have hb1 : ¬ m < j := by omega
  have hb2 : ¬ j < i := by omega
  by_cases hc : m = i
  · subst hc
    have hj : j = m := by omega
    subst hj
    simp [execOp, *, Instr.sliceAt, Instr.slice, Instr.sliceBounds, run_underlying hU, hS, go_sem, Addr.add_lit]
  · simp [execOp, *, Instr.sliceAt, Instr.slice, Instr.sliceBounds, run_underlying hU, hS, go_sem, Addr.add_lit]
end
section
variable {G : Nat → Prop} {W w : World} {As : List HP} {g k : Nat} {CS : List (List Value)} {T : TypeId}
theorem Kq {i n c : Nat} (h : Sep G W As w) {q : Nat} (hi : As[q]? = some (CkB g CS T)) (hCS : Ck k CS) (hc : n ≤ c) : ∀ j u, ((CS.drop i).take (n - i)).flatten[j]? = some u → w.cell? ⟨g, (if c = i then 0 else i * k) + j, none⟩ = some u := fun j u hj => by
  by_cases e : c = i
  · rw [show n - i = 0 by omega] at hj; simp at hj
  · rw [if_neg e]; exact VK h hi hCS j u hj
theorem UG {ps : List EvP} {z : List Value} {n i q r : Nat} (ht : CS.take n = yr ps) (hi : i < n) (hn : n ≤ CS.length) (hq : q = i + (n - (i + 1))) : (spl (spl CS i ((CS.drop (i + 1)).take (n - (i + 1)))) q (List.replicate r z)).take q = yr (ps.eraseIdx i) := by
  subst hq
  have hl : ((CS.drop (i + 1)).take (n - (i + 1))).length = n - (i + 1) := by rw [List.length_take, List.length_drop]; omega
  have h0 := yL (l := CS) (S := (CS.drop (i + 1)).take (n - (i + 1))) (o := i) (by rw [hl]; omega)
  have h1 := ZP (l := CS) (S := (CS.drop (i + 1)).take (n - (i + 1))) (o := i) (by rw [hl]; omega)
  rw [hl] at h1
  rw [VO (Nat.le_refl _) (by rw [h0]; omega), h1, List.eraseIdx_eq_take_drop_succ]
  have h2 : CS.take i = yr (ps.take i) := by
    unfold yr at ht ⊢
    rw [List.map_take, ← ht, List.take_take, Nat.min_eq_left (Nat.le_of_lt hi)]
  have h3 : (CS.drop (i + 1)).take (n - (i + 1)) = yr (ps.drop (i + 1)) := by
    unfold yr at ht ⊢
    rw [List.map_drop, ← ht, List.drop_take]
  rw [h2, h3]
  unfold yr
  simp
end
end Go.Proofs.Ytmiihhbeclhaoaa
end

section
/- Steps of the proofs of this seat: part D7. -/
set_option maxRecDepth 8000
set_option maxHeartbeats 4000000
namespace Go.Proofs.Ytmiihhbeclhaoaa
open Go.Proofs Go.RowKit

theorem KJ {G : Nat → Prop} {W w : World} {Rs : List HP} {vps : Value} {ps : List EvP} {i : Nat} (hi : i < ps.length)  (hS0 : Sep G W ((RowE (α := EvP) own 36 vps ps) :: Rs) w) : Ret Try.prog 50 [vps, .int .i64 ((i : Nat) : Int), .int .i64 (((i + 1) : Nat) : Int)] w (fun r w' => ∃ (v2 : Value), r = (v2 : Value) ∧ Sep G W ((RowE (α := EvP) own 36 v2 (ps.eraseIdx i)) :: Rs) w') := by
 refine zp (args := [vps, .int .i64 ((i : Nat) : Int), .int .i64 (((i + 1) : Nat) : Int)]) Try.func50 rfl rfl ?_
 have hr1 := hS0.row (i := 0) rfl
 have hr1s : _ * 96 ≤ _ := hr1.2
 refine zc ?_
 refine za (by kernel_rfl) (fun _ => ?_)
 refine st (zd (v := (.slice none 0 0)) rfl ?_)
 refine ze ?_
 refine zc ?_
 obtain ⟨g, cap, CS, rfl, hCS9, hln9, htk9, hnc9, hcm9, hsm9, hS2⟩ := hS0.pOpen rfl (by omega)
 refine za (by kernel_rfl) (fun _ => ?_)
 refine st (zb (v := (.slice (some ⟨g, 0, none⟩) ps.length cap)) rfl ?_)
 refine st (zb (v := .int .i64 ((i : Nat) : Int)) rfl ?_)
 refine st (zb (v := .int .i64 (((i + 1) : Nat) : Int)) rfl ?_)
 refine st (zb (v := (.slice (some ⟨g, 0, none⟩) ps.length cap)) rfl ?_)
 refine st (zJ (n := ps.length) Try.underlying22 rfl (⟨_, cap, rfl, (by omega), fun _ => ⟨_, _, rfl⟩⟩ : IsSl _ (ps.length)) ?_)
 refine st (UY (k := 10) (g := g) (n := ps.length) (c := cap) (i := i) (j := (i + 1)) (m := ps.length) Try.underlying22 Try.sizeOf36 rfl (show _ = (.int .i64 ((i : Nat) : Int) : Value) from rfl) (show _ = (.int .i64 (((i + 1) : Nat) : Int) : Value) from rfl) (show _ = (.int .i64 ((ps.length : Nat) : Int) : Value) from rfl) (by omega) (by omega) (by omega) ?_)
 refine ze ?_
 refine zc ?_
 refine zc ?_
 refine za (by kernel_rfl) (fun _ => ?_)
 refine st (zb (v := .int .i64 ((i : Nat) : Int)) rfl ?_)
 refine st (zb (v := .int .i64 (((i + 1) : Nat) : Int)) rfl ?_)
 have hkn3 : (decide (((i : Nat) : Int) = (((i + 1) : Nat) : Int))) = false := decide_eq_false (by omega)
 refine st (ZE (congrArg Value.bool hkn3) (fun K9 h9 => yq (k := .i64) (a := ((i : Nat) : Int)) (b := (((i + 1) : Nat) : Int)) rfl rfl h9) ?_)
 refine ze ?_
 refine zi rfl ?_
 refine zo ?_
 refine zc ?_
 refine za (by kernel_rfl) (fun _ => ?_)
 refine st (zb (v := (.slice (some ⟨g, 0, none⟩) ps.length cap)) rfl ?_)
 refine st (zJ (n := ps.length) Try.underlying22 rfl (⟨_, cap, rfl, (by omega), fun _ => ⟨_, _, rfl⟩⟩ : IsSl _ (ps.length)) ?_)
 refine st (zd (v := .int .i64 ((ps.length : Nat) : Int)) rfl ?_)
 refine ze ?_
 refine zc ?_
 refine zM (WF [fun vals wq => Sep G W ((CkB g CS 36) :: Rs) wq, fun vals wq => (vals 6 = ((.slice (some ⟨g, 0, none⟩) (i + (ps.length - (i + 1))) cap) : Value)) ∧ Sep G W ((CkB g (spl CS i ((CS.drop (i + 1)).take (ps.length - (i + 1)))) 36) :: Rs) wq]) (AF [Vl 0 ((.slice (some ⟨g, 0, none⟩) ps.length cap)), Vl 1 (.int .i64 ((i : Nat) : Int)), Vl 2 ((.slice (some ⟨g, 0, none⟩) i cap)), Vl 3 ((.slice (some ⟨g, 0, none⟩) ps.length cap)), Vl 4 (.int .i64 (((i + 1) : Nat) : Int)), Vl 5 ((.slice (some ⟨g, if cap = (i + 1) then 0 else (i + 1) * 10, none⟩) (ps.length - (i + 1)) (cap - (i + 1)))), fun _ => True, Vl 7 ((.slice (some ⟨g, 0, none⟩) (i + (ps.length - (i + 1))) cap))]) [[], [], [0, 1], [], [], [3, 4], [0, 1, 2, 3, 4, 5], [0, 1, 2, 3, 4, 5, 6]] [6] [(0, 0), (0, 0), (0, 0), (0, 0), (0, 0), (0, 0), (0, 0), (1, 1)] (by kernel_rfl) (by kernel_rfl) (by kernel_rfl) rfl (by kernel_rfl) (by kernel_rfl) (fun _ h1 h2 h3 h4 _ => hS2.same h1 h2 h3 h4) ?_ (yc ⟨dA, dA, dA, dA, dA, dA, dT, dA, trivial⟩) ⟨?_, ?_, ?_, ?_, ?_, ?_, ?_, ?_, trivial⟩ ?_
 ·intro k vals vals' w hv h
  have e : ∀ j ∈ ([6] : List Nat), vals' j = vals j := hv
  match k, h with
  | 0, h => exact h
  | 1, h => exact (by simpa only [WF, List.getElem?_cons_zero, List.getElem?_cons_succ, e 6 (by decide)] using h)
  | _ + 2, _ => trivial
 ·intro k65 vals w66 h69 h70 hW68 hA67
  refine obl rfl ?_
  exact zb (v := (.slice (some ⟨g, 0, none⟩) ps.length cap)) rfl (fun vals' hv _ => ⟨rfl, hv⟩)
 ·intro k71 vals w72 h75 h76 hW74 hA73
  refine obl rfl ?_
  exact zb (v := .int .i64 ((i : Nat) : Int)) rfl (fun vals' hv _ => ⟨rfl, hv⟩)
 ·intro k77 vals w78 h81 h82 hW80 hA79
  obtain rfl : k77 = 0 := Nat.le_antisymm h82 h81
  have hS83 : Sep _ _ _ _ := hW80
  have e84 := hA79 0 (by decide)
  have e85 := hA79 1 (by decide)
  refine obl rfl ?_
  exact yu (k := 10) (g := g) (n := ps.length) (c := cap) (i := 0) (j := i) Try.underlying22 Try.sizeOf36 e84 rfl (show _ = (.int .i64 ((i : Nat) : Int) : Value) from e85) (by omega) (by omega) (by omega) (fun vals' hv _ => ⟨rfl, hv⟩)
 ·intro k86 vals w87 h90 h91 hW89 hA88
  refine obl rfl ?_
  exact zb (v := (.slice (some ⟨g, 0, none⟩) ps.length cap)) rfl (fun vals' hv _ => ⟨rfl, hv⟩)
 ·intro k92 vals w93 h96 h97 hW95 hA94
  refine obl rfl ?_
  exact zb (v := .int .i64 (((i + 1) : Nat) : Int)) rfl (fun vals' hv _ => ⟨rfl, hv⟩)
 ·intro k98 vals w99 h102 h103 hW101 hA100
  obtain rfl : k98 = 0 := Nat.le_antisymm h103 h102
  have hS104 : Sep _ _ _ _ := hW101
  have e105 := hA100 3 (by decide)
  have e106 := hA100 4 (by decide)
  refine obl rfl ?_
  exact Ux (k := 10) (g := g) (n := ps.length) (c := cap) (i := (i + 1)) Try.underlying22 Try.sizeOf36 e105 (show _ = (.int .i64 (((i + 1) : Nat) : Int) : Value) from e106) (by omega) (by omega) (fun vals' hv _ => ⟨rfl, hv⟩)
 ·intro k46 vals w47 h50 h51 hW49 hA48
  obtain rfl : k46 = 0 := Nat.le_antisymm h51 h50
  have hS52 : Sep _ _ _ _ := hW49
  have e53 := hA48 2 (by decide)
  have e54 := hA48 5 (by decide)
  refine obl rfl ?_
  refine (Vk (k := 10) (bytes := 96) (g := g) (CS := CS) (S := ((CS.drop (i + 1)).take (ps.length - (i + 1)))) (n := i) (c := cap) (m := (ps.length - (i + 1))) (sc := (cap - (i + 1))) xZ hS52 hCS9 (Ck.take (Ck.drop hCS9)) (Wj (by rw [htk9]; exact YR ps)) e53 e54 (Kq (i := (i + 1)) (n := ps.length) (c := cap) hS52 (q := 0) rfl hCS9 (by omega)) (by rw [List.length_take, List.length_drop, hln9]; omega) (by omega) (by rw [show ((CS.drop (i + 1)).take (ps.length - (i + 1))).length = (ps.length - (i + 1)) from (by rw [List.length_take, List.length_drop, hln9]; omega), hln9]; omega) ?_)
  intro w55 hS56
  intro vals' hv hv'
  refine ⟨?_, trivial⟩
  show (vals' 6 = ((.slice (some ⟨g, 0, none⟩) (i + (ps.length - (i + 1))) cap) : Value)) ∧ Sep G W ((CkB g (spl CS i ((CS.drop (i + 1)).take (ps.length - (i + 1)))) 36) :: Rs) w55
  exact ⟨hv, hS56⟩
 ·intro k107 vals w108 h111 h112 hW110 hA109
  obtain rfl : k107 = 1 := Nat.le_antisymm h112 h111
  obtain ⟨he57, hS113⟩ := hW110
  refine obl rfl ?_
  exact zd (v := (.slice (some ⟨g, 0, none⟩) (i + (ps.length - (i + 1))) cap)) he57 (fun vals' hv _ => ⟨rfl, hv⟩)
 intro vals w114 hW115 hA116
 obtain ⟨he57, hS117⟩ := hW115
 have e118 := hA116 7 (by decide)
 refine yb (kv := [(0, (.slice (some ⟨g, 0, none⟩) (i + (ps.length - (i + 1))) cap)), (1, .int .i64 ((i : Nat) : Int)), (2, .int .i64 (((i + 1) : Nat) : Int)), (6, (.slice none 0 0)), (8, (.slice (some ⟨g, 0, none⟩) ps.length cap)), (9, .int .i64 ((i : Nat) : Int)), (10, .int .i64 (((i + 1) : Nat) : Int)), (11, (.slice (some ⟨g, 0, none⟩) ps.length cap)), (12, .int .i64 ((ps.length : Nat) : Int)), (13, (.slice (some ⟨g, if ps.length = i then 0 else i * 10, none⟩) ((i + 1) - i) (ps.length - i))), (14, .int .i64 ((i : Nat) : Int)), (15, .int .i64 (((i + 1) : Nat) : Int)), (16, .bool false), (18, (.slice (some ⟨g, 0, none⟩) ps.length cap)), (19, .int .i64 ((ps.length : Nat) : Int)), (7, .int .i64 ((ps.length : Nat) : Int))]) ⟨(by exact e118), rfl, rfl, rfl, rfl, rfl, rfl, rfl, rfl, rfl, rfl, rfl, rfl, rfl, rfl, rfl, trivial⟩ (fun ρw114 => ?_)
 refine ze ?_
 refine zc ?_
 refine za (by kernel_rfl) (fun _ => ?_)
 refine st (zb (v := (.slice (some ⟨g, 0, none⟩) (i + (ps.length - (i + 1))) cap)) rfl ?_)
 refine st (zb (v := (.slice (some ⟨g, 0, none⟩) (i + (ps.length - (i + 1))) cap)) rfl ?_)
 refine st (zJ (n := (i + (ps.length - (i + 1)))) Try.underlying22 rfl (⟨_, cap, rfl, (by omega), fun _ => ⟨_, _, rfl⟩⟩ : IsSl _ ((i + (ps.length - (i + 1))))) ?_)
 refine st (zb (v := .int .i64 ((ps.length : Nat) : Int)) rfl ?_)
 refine st (yu (k := 10) (g := g) (n := (i + (ps.length - (i + 1)))) (c := cap) (i := (i + (ps.length - (i + 1)))) (j := ps.length) Try.underlying22 Try.sizeOf36 rfl (show _ = (.int .i64 (((i + (ps.length - (i + 1))) : Nat) : Int) : Value) from rfl) (show _ = (.int .i64 ((ps.length : Nat) : Int) : Value) from rfl) (by omega) (by omega) (by omega) ?_)
 refine stn (XA (k := 10) (g := g) (CS := (spl CS i ((CS.drop (i + 1)).take (ps.length - (i + 1))))) (o := (i + (ps.length - (i + 1)))) (n := (ps.length - (i + (ps.length - (i + 1))))) Try.underlying22 Try.zeroValue36 ZY Uc (by decide) hS117 (Ck.spl (CS := CS) (A := ((CS.drop (i + 1)).take (ps.length - (i + 1)))) (o := i) hCS9 (Ck.take (Ck.drop hCS9))) rfl (by rw [((yL (l := CS) (S := ((CS.drop (i + 1)).take (ps.length - (i + 1)))) (o := i) (by rw [show ((CS.drop (i + 1)).take (ps.length - (i + 1))).length = (ps.length - (i + 1)) from (by rw [List.length_take, List.length_drop, hln9]; omega), hln9]; omega)).trans hln9)]; omega) ?_)
 intro w119 hS120
 have hS120t : Sep G W ((CkB g (spl (spl CS i ((CS.drop (i + 1)).take (ps.length - (i + 1)))) (i + (ps.length - (i + 1))) (List.replicate (ps.length - (i + (ps.length - (i + 1)))) zc0)) 36) :: Rs) w119 := hS120
 refine ze ?_
 refine zc ?_
 refine za (by kernel_rfl) (fun _ => ?_)
 refine st (zb (v := (.slice (some ⟨g, 0, none⟩) (i + (ps.length - (i + 1))) cap)) rfl ?_)
 refine st (zd (v := (.slice (some ⟨g, 0, none⟩) (i + (ps.length - (i + 1))) cap)) rfl ?_)
 refine ze ?_
 refine zw ?_
 refine zL Try.results50 (show _ = ((.slice (some ⟨g, 0, none⟩) (i + (ps.length - (i + 1))) cap) : Value) from rfl) ?_
 have hle9 : (ps.eraseIdx i).length = ps.length - 1 := List.length_eraseIdx_of_lt hi
 have hS122 : Sep G W ((RowE (α := EvP) own 36 (.slice (some ⟨g, 0, none⟩) (i + (ps.length - (i + 1))) cap) (ps.eraseIdx i)) :: Rs) w119 := Sep.pClose (n := (i + (ps.length - (i + 1)))) (cap := cap) (qs := ps.eraseIdx i) hS120t (Ck.spl (CS := (spl CS i ((CS.drop (i + 1)).take (ps.length - (i + 1))))) (A := (List.replicate (ps.length - (i + (ps.length - (i + 1)))) zc0)) (o := (i + (ps.length - (i + 1)))) (Ck.spl (CS := CS) (A := ((CS.drop (i + 1)).take (ps.length - (i + 1)))) (o := i) hCS9 (Ck.take (Ck.drop hCS9))) (Ck.rep ZY)) ((yL (l := (spl CS i ((CS.drop (i + 1)).take (ps.length - (i + 1))))) (S := (List.replicate (ps.length - (i + (ps.length - (i + 1)))) zc0)) (o := (i + (ps.length - (i + 1)))) (by rw [List.length_replicate, ((yL (l := CS) (S := ((CS.drop (i + 1)).take (ps.length - (i + 1)))) (o := i) (by rw [show ((CS.drop (i + 1)).take (ps.length - (i + 1))).length = (ps.length - (i + 1)) from (by rw [List.length_take, List.length_drop, hln9]; omega), hln9]; omega)).trans hln9)]; omega)).trans ((yL (l := CS) (S := ((CS.drop (i + 1)).take (ps.length - (i + 1)))) (o := i) (by rw [show ((CS.drop (i + 1)).take (ps.length - (i + 1))).length = (ps.length - (i + 1)) from (by rw [List.length_take, List.length_drop, hln9]; omega), hln9]; omega)).trans hln9)) (by omega) hcm9 (UG htk9 hi (by omega) (by omega)) (by omega) (by omega)
 refine ⟨(.slice (some ⟨g, 0, none⟩) (i + (ps.length - (i + 1))) cap), rfl, hS122⟩

end Go.Proofs.Ytmiihhbeclhaoaa
end

section
/- Steps of the proofs of this seat: part B7. -/
set_option maxRecDepth 8000
set_option maxHeartbeats 4000000
namespace Go.Proofs.Ytmiihhbeclhaoaa
open Go.Proofs Go.RowKit

def QZ (x : Int) (n : Nat) : Nat := if x.tmod n < 0 then (x.tmod n + n).toNat else (x.tmod n).toNat
theorem VS {q n : Nat} {x : Int} (h : (q : Int) = if x.tmod n < 0 then x.tmod n + n else x.tmod n) : q = QZ x n := by
  unfold QZ
  split <;> rename_i h1
  · rw [if_pos h1] at h; omega
  · rw [if_neg h1] at h; omega
theorem Zp {G : Nat → Prop} {W w : World} {Rs : List HP} {x : Int} (hx : InR x) {n : Nat} (hn : 1 ≤ n ∧ n ≤ 281474976710656) (hS0 : Sep G W Rs w) : Ret Try.prog 10 [.int .i64 (x), .int .i64 ((n : Nat) : Int)] w (fun r w' => ∃ (q : Nat), r = (.int .i64 ((q : Nat) : Int) : Value) ∧ (q < n) ∧ (q = QZ x n) ∧ Sep G W Rs w') := by
 refine zp (args := [.int .i64 (x), .int .i64 ((n : Nat) : Int)]) Try.func10 rfl rfl ?_
 refine zc ?_
 refine za (by kernel_rfl) (fun _ => ?_)
 refine st (zd (v := .int .i64 (0)) rfl ?_)
 refine ze ?_
 refine zc ?_
 refine zc ?_
 refine za (by kernel_rfl) (fun _ => ?_)
 refine st (zb (v := .int .i64 ((n : Nat) : Int)) rfl ?_)
 refine st (zH (k := .i64) (a := ((n : Nat) : Int)) (b := 1) rfl rfl ?_)
 refine ze ?_
 cases hc1 : decide (((n : Nat) : Int) < 1)
 ·skip
  have hc1 := of_decide_eq_false hc1
  refine zi rfl ?_
  refine zo ?_
  refine zc ?_
  refine za (by kernel_rfl) (fun _ => ?_)
  refine st (zb (v := .int .i64 (x)) rfl ?_)
  refine st (zb (v := .int .i64 ((n : Nat) : Int)) rfl ?_)
  have h03 : (0 : Int) < ((n : Nat) : Int) := by omega
  have hr4 := Int.tmod_lt_of_pos x h03; have hr5 := Int.lt_tmod_of_pos x h03
  obtain ⟨rm2, hr6⟩ : ∃ z, Int.tmod x ((n : Nat) : Int) = z := ⟨_, rfl⟩; rw [hr6] at hr4 hr5
  refine st (Ya (r := rm2) rfl rfl h03 hr6 ?_)
  refine st (zd (v := .int .i64 (rm2)) rfl ?_)
  refine ze ?_
  refine zc ?_
  refine zc ?_
  refine za (by kernel_rfl) (fun _ => ?_)
  refine st (zb (v := .int .i64 (rm2)) rfl ?_)
  refine st (zH (k := .i64) (a := rm2) (b := 0) rfl rfl ?_)
  refine ze ?_
  cases hc7 : decide (rm2 < 0)
  ·skip
   have hc7 := of_decide_eq_false hc7
   refine zi rfl ?_
   refine zo ?_
   refine zc ?_
   refine za (by kernel_rfl) (fun _ => ?_)
   refine st (zb (v := .int .i64 (rm2)) rfl ?_)
   refine st (zd (v := .int .i64 (rm2)) rfl ?_)
   refine ze ?_
   refine zw ?_
   refine zL Try.results10 (show _ = (.int .i64 (rm2) : Value) from rfl) ?_
   refine ⟨(rm2).toNat, ?_, ?_, ?_, hS0⟩
   · rw [Int.toNat_of_nonneg (by omega)]
   · omega
   · refine VS ?_
     first | (rw [if_pos (by omega)]; omega) | (rw [if_neg (by omega)]; omega)
  ·skip
   have hc7 := of_decide_eq_true hc7
   refine zk rfl ?_
   refine za (by kernel_rfl) (fun _ => ?_)
   refine st (zb (v := .int .i64 (rm2)) rfl ?_)
   refine st (zb (v := .int .i64 ((n : Nat) : Int)) rfl ?_)
   have hr8 : InR (rm2 + ((n : Nat) : Int)) := by omega
   refine st (zB (r := rm2 + ((n : Nat) : Int)) (k := .i64) (a := rm2) (b := ((n : Nat) : Int)) rfl rfl (zy hr8) ?_)
   refine st (zd (v := .int .i64 (rm2 + ((n : Nat) : Int))) rfl ?_)
   refine ze ?_
   refine zc ?_
   refine za (by kernel_rfl) (fun _ => ?_)
   refine st (zb (v := .int .i64 (rm2 + ((n : Nat) : Int))) rfl ?_)
   refine st (zd (v := .int .i64 (rm2 + ((n : Nat) : Int))) rfl ?_)
   refine ze ?_
   refine zw ?_
   refine zL Try.results10 (show _ = (.int .i64 (rm2 + ((n : Nat) : Int)) : Value) from rfl) ?_
   refine ⟨(rm2 + ((n : Nat) : Int)).toNat, ?_, ?_, ?_, hS0⟩
   · rw [Int.toNat_of_nonneg (by omega)]
   · omega
   · refine VS ?_
     first | (rw [if_pos (by omega)]; omega) | (rw [if_neg (by omega)]; omega)
 ·skip
  have hc1 := of_decide_eq_true hc1
  refine zk rfl ?_
  refine zc ?_
  refine za (by kernel_rfl) (fun _ => ?_)
  refine st (zd (v := .int .i64 (0)) rfl ?_)
  refine ze ?_
  refine zw ?_
  refine zL Try.results10 (show _ = (.int .i64 (0) : Value) from rfl) ?_
  refine ⟨0, ?_, ?_, ?_, hS0⟩
  · exfalso; omega
  · exfalso; omega
  · exfalso; omega

def Part (n : Nat) (S T : List Ev) : Prop := Good n T ∧ ∀ x ∈ T, x ∈ S
section
variable {n : Nat} {S T : List Ev} {e x : Ev} {i k f len : Nat}
theorem UU (h : x ∈ T) : x ∈ addL n T e := by
  unfold addL
  split
  · exact xy.2 (.inr h)
  · exact h
theorem Part.has (hG : Good n S) (h : Part n S T) (hk : k < S.length) (hK : ∀ x ∈ S.take k, x ∈ T) : S.getD k default ∈ addL n T (S.getD k default) := by
  by_cases hm : S.getD k default ∈ T
  · exact UU hm
  · have h0 : zU n T (S.getD k default) = 0 := by
      refine hG.sub_add h.1 h.2 (xb hk) hm (fun x hx hlt => ?_)
      obtain ⟨j, hj, rfl⟩ := List.getElem_of_mem hx
      rw [← zm default hj] at hlt ⊢
      rcases Nat.lt_trichotomy j k with h1 | h1 | h1
      · exact hK _ (Wq h1 hj)
      · subst h1; rw [yQ] at hlt; omega
      · exact absurd (hG.at_lt h1 hj) (xO hlt)
    rw [xF h0]
    exact xy.2 (.inl rfl)
end
theorem Xq : ∀ {S T : List Ev}, T.Nodup → (∀ x ∈ T, x ∈ S) → T.length ≤ S.length
  | _, [], _, _ => Nat.zero_le _
  | S, x :: T, hn, hs => by
    have hn2 := List.nodup_cons.1 hn
    have h1 := Xq (S := S.erase x) (T := T) hn2.2 (fun y hy => (List.mem_erase_of_ne (fun e => hn2.1 (by rw [← e]; exact hy))).2 (hs y (List.mem_cons_of_mem _ hy)))
    have hx := hs x (List.mem_cons_self ..)
    rw [List.length_erase_of_mem hx] at h1
    have := List.length_pos_of_mem hx
    simp only [List.length_cons]; omega
end Go.Proofs.Ytmiihhbeclhaoaa
end

section
/- Steps of the proofs of this seat: part B8. -/
set_option maxRecDepth 8000
set_option maxHeartbeats 4000000
namespace Go.Proofs.Ytmiihhbeclhaoaa
open Go.Proofs Go.RowKit

section
variable {n : Nat} {S : List Ev} {j : Nat}
theorem Zb (hG : Good n S) : ∀ (k : Nat), k ≤ S.length → yX n (S.take k) = S.take k
  | 0, _ => rfl
  | k + 1, hk => by
    rw [xr (by omega), YL, Zb hG k (by omega), xF (hG.step (by omega) (hG.upto k (by omega))), hG.ins_take (by omega), ← xr (by omega)]
end
end Go.Proofs.Ytmiihhbeclhaoaa
end

section
/- Steps of the proofs of this seat: part D8. -/
set_option maxRecDepth 8000
set_option maxHeartbeats 4000000
namespace Go.Proofs.Ytmiihhbeclhaoaa
open Go.Proofs Go.RowKit

def xj (n : Nat) (T : List Ev) (e : Ev) : Bool := decide (zU n T e = 0)
def Vy (n : Nat) : Nat → List Ev → List Ev → List Ev × List Ev
  | 0, _, B => ([], B)
  | k + 1, T, B => match B.findIdx? (xj n T) with
    | none => ([], B)
    | some i => (B.getD i default :: (Vy n k (addL n T (B.getD i default)) (B.eraseIdx i)).1, (Vy n k (addL n T (B.getD i default)) (B.eraseIdx i)).2)
def yn (n : Nat) (T B : List Ev) : List Ev := (Vy n B.length T B).1
def yy (n : Nat) (T B : List Ev) : List Ev := (Vy n B.length T B).2
theorem ZK {n : Nat} {T B : List Ev} (h : ∀ i, i < B.length → xj n T (B.getD i default) = false) : yn n T B = [] ∧ yy n T B = B := by
  have h1 : B.findIdx? (xj n T) = none := by
    rw [List.findIdx?_eq_none_iff]
    intro x hx
    obtain ⟨i, hi, rfl⟩ := List.getElem_of_mem hx
    have := h i hi
    rw [zm _ hi] at this; exact this
  unfold yn yy
  cases hl : B.length with
  | zero => exact ⟨rfl, rfl⟩
  | succ k => unfold Vy; rw [h1]; exact ⟨rfl, rfl⟩
theorem Ww {n : Nat} {T B : List Ev} {q : Nat} (hq : q < B.length) (hc : xj n T (B.getD q default) = true) (hm : ∀ i, i < q → xj n T (B.getD i default) = false) : yn n T B = B.getD q default :: yn n (addL n T (B.getD q default)) (B.eraseIdx q) ∧ yy n T B = yy n (addL n T (B.getD q default)) (B.eraseIdx q) := by
  have h1 : B.findIdx? (xj n T) = some q := by
    rw [List.findIdx?_eq_some_iff_getElem]
    refine ⟨hq, by rw [zm _ hq] at hc; exact hc, fun j hj => ?_⟩
    have := hm j hj
    rw [zm _ (by omega)] at this
    rw [this]; decide
  have h2 : (B.eraseIdx q).length = B.length - 1 := List.length_eraseIdx_of_lt hq
  unfold yn yy
  rw [h2]
  obtain ⟨k, hk⟩ : ∃ k, B.length = k + 1 := ⟨B.length - 1, by omega⟩
  rw [hk, Nat.add_sub_cancel]
  conv => lhs; lhs; unfold Vy
  conv => rhs; lhs; unfold Vy
  rw [h1]
  exact ⟨rfl, rfl⟩
def FirstA (n : Nat) (T B : List Ev) (c : Int) (T1 : List Ev) : Prop := (c = -1 ∧ (∀ i, i < B.length → xj n T (B.getD i default) = false) ∧ T1 = T) ∨ ∃ q : Nat, c = (q : Int) ∧ q < B.length ∧ xj n T (B.getD q default) = true ∧ (∀ i, i < q → xj n T (B.getD i default) = false) ∧ T1 = addL n T (B.getD q default)
structure RdI (n : Nat) (L B0 O T B : List Ev) : Prop where
  o : yn n L B0 = O ++ yn n T B
  b : yy n L B0 = yy n T B
  good : Good n T
  len : T.length + B.length ≤ 1000000
  ol : O.length + B.length ≤ B0.length
theorem RdI.start {n : Nat} {L B0 : List Ev} (hG : Good n L) (hl : L.length + B0.length ≤ 1000000) : RdI n L B0 [] L B0 := ⟨rfl, rfl, hG, hl, by simp⟩
theorem RdI.step {n : Nat} {L B0 O T B : List Ev} {q : Nat} (h : RdI n L B0 O T B) (hq : q < B.length) (hc : xj n T (B.getD q default) = true) (hm : ∀ i, i < q → xj n T (B.getD i default) = false) : RdI n L B0 (O ++ [B.getD q default]) (addL n T (B.getD q default)) (B.eraseIdx q) := by
  obtain ⟨h1, h2⟩ := Ww hq hc hm
  have h3 : (B.eraseIdx q).length = B.length - 1 := List.length_eraseIdx_of_lt hq
  have h4 := xN (n := n) (L := T) (e := B.getD q default)
  have h5 := h.len
  have h6 := h.ol
  exact ⟨by rw [h.o, h1, List.append_assoc]; rfl, by rw [h.b, h2], h.good.addL, by omega, by rw [List.length_append, List.length_singleton]; omega⟩
theorem RdI.fin {n : Nat} {L B0 O T B : List Ev} (h : RdI n L B0 O T B) (hn : ∀ i, i < B.length → xj n T (B.getD i default) = false) : O = yn n L B0 ∧ B = yy n L B0 := by
  obtain ⟨h1, h2⟩ := ZK hn
  rw [h.o, h.b, h1, h2, List.append_nil]; exact ⟨rfl, rfl⟩
theorem Ye {G : Nat → Prop} {W w : World} {Rs : List HP} {b : Nat} {n : Nat} {L : List Ev} {e : Ev} {de0 : Value} (hde0 : RdS W G de0 e.deps) (oe : e.Ok) (hS0 : Sep G W ((SetO b n L) :: Rs) w) (hL : L.length ≤ 1000000) (hlen : ∀ y ∈ L, y.deps.length = n) : Ret Try.prog 13 [.pointer (some ⟨b, 0, none⟩), .agg (e.cells de0).toArray] w (fun r w' => r = (.int .i64 ((zU n L e)) : Value) ∧ Sep G W ((SetO b n (addL n L e)) :: Rs) w') := by
  refine Ret.mono (D_Add hde0 oe hS0 hL hlen) ?_
  rintro r w' ⟨L1, h1, h2, h3⟩
  subst h2
  exact ⟨h1, h3⟩

theorem D_rdy {G : Nat → Prop} {W w : World} {Rs : List HP} {e : Ev} {de0 : Value} (hde0 : RdS W G de0 e.deps) (oe : e.Ok) {bx bt n : Nat} {T : List Ev} (hbx : (Blk bx #[.pointer (some ⟨bt, 0, none⟩)] 26).p W G) (hS0 : Sep G W ((SetO bt n T) :: Rs) w) (hT : T.length ≤ 1000000) (hlen : ∀ y ∈ T, y.deps.length = n) : Ret Try.prog 48 [.agg (e.cells de0).toArray, .pointer (some ⟨bx, 0, none⟩)] w (fun r w' => r = (.bool ((xj n T e)) : Value) ∧ Sep G W ((SetO bt n (addL n T e)) :: Rs) w') := by
 have hde0s : _ * 8 ≤ _ := hde0.small
 refine zp (args := [.agg (e.cells de0).toArray, .pointer (some ⟨bx, 0, none⟩)]) Try.func48 rfl rfl ?_
 refine zc ?_
 refine za (by kernel_rfl) (fun _ => ?_)
 refine st (yg (v := .agg (e.cells de0).toArray) rfl ?_)
 intro w3 b2 hn1
 have hS4 := hS0.new hn1
 refine st (zd (v := .bool false) rfl ?_)
 refine ze ?_
 refine zc ?_
 refine za (by kernel_rfl) (fun _ => ?_)
 refine st (zg (v := .pointer (some ⟨bt, 0, none⟩)) Try.isAgg26 rfl (zf (hS4.gblk hbx) rfl) ?_)
 refine st (zr (k := 10) Try.isAgg36 Try.sizeOf36 rfl rfl (CellsAt.all (hS4.blk (i := 0) rfl)) ?_)
 have hS5 := hS4.mv1
 refine st (zj (f := 13) (vals := [.pointer (some ⟨bt, 0, none⟩), .agg (e.cells de0).toArray]) (cap := []) rfl rfl Try.call13 (Ye (e := e) hde0 oe hS5 (hT) (hlen)) ?_)
 rintro _ w6 ⟨rfl, hS7⟩
 refine st (yq (k := .i64) (a := (zU n T e)) (b := 0) rfl rfl ?_)
 refine st (zd (v := .bool (decide ((zU n T e) = 0))) rfl ?_)
 refine ze ?_
 refine zw ?_
 refine zL Try.results48 (show _ = (.bool (decide ((zU n T e) = 0)) : Value) from rfl) ?_
 have hS8 : Sep G W ((SetO bt n (addL n T e)) :: Rs) w6 := hS7.sel 2 [0] (Nat.le_add_left _ _) rfl rfl
 refine ⟨rfl, hS8⟩

theorem Wz {G : Nat → Prop} {W w : World} {Rs : List HP} {vB : Value} {B : List Ev} (hB : RdS W G vB B) {bx bt n : Nat} {T : List Ev} (hbx : (Blk bx #[.pointer (some ⟨bt, 0, none⟩)] 26).p W G) (hS0 : Sep G W ((SetO bt n T) :: Rs) w) (hT : T.length ≤ 1000000) (hlen : ∀ y ∈ T, y.deps.length = n) : Ret Try.prog 49 [vB, .func (.func 48) #[] #[.pointer (some ⟨bx, 0, none⟩)]] w (fun r w' => ∃ (c : Int) (T1 : List Ev), r = (.int .i64 (c) : Value) ∧ (InR c) ∧ (FirstA n T B c T1) ∧ Sep G W ((SetO bt n T1) :: Rs) w') := by
 have hBs : _ * 96 ≤ _ := hB.small
 refine zp (args := [vB, .func (.func 48) #[] #[.pointer (some ⟨bx, 0, none⟩)]]) Try.func49 rfl rfl ?_
 refine zc ?_
 refine za (by kernel_rfl) (fun _ => ?_)
 refine st (zd (v := .int .i64 (0)) rfl ?_)
 refine ze ?_
 refine zc ?_
 refine zc ?_
 refine za (by kernel_rfl) (fun _ => ?_)
 refine st (zb (v := vB) rfl ?_)
 refine st (zJ (n := B.length) Try.underlying22 rfl hB.sl ?_)
 refine st (zb (v := .int .i64 (0)) rfl ?_)
 refine ze ?_
 refine zt ?_
 refine zP (fun mq σ wq => ∃ (k : Nat) (ρ : Env), mq = B.length - k ∧ σ = zQ ρ [(0, vB), (1, .func (.func 48) #[] #[.pointer (some ⟨bx, 0, none⟩)]), (7, .int .i64 ((B.length : Nat) : Int)), (8, .int .i64 ((k : Nat) : Int))] ∧ (k ≤ B.length) ∧ (∀ i, i < k → xj n T (B.getD i default) = false) ∧ Sep G W ((SetO bt n T) :: Rs) wq) ⟨0, _, rfl, zh ⟨rfl, rfl, rfl, rfl, trivial⟩, Nat.zero_le _, (fun i h => absurd h (Nat.not_lt_zero i)), hS0⟩ ?_
 rintro m2 σ3 w1 ⟨k, ρl1, rfl, rfl, hkk, hm, hS4⟩
 refine zc ?_
 refine za (by kernel_rfl) (fun _ => ?_)
 refine st (zH (k := .i64) (a := ((k : Nat) : Int)) (b := ((B.length : Nat) : Int)) rfl rfl ?_)
 refine ze ?_
 refine zc ?_
 cases hc5 : decide (((k : Nat) : Int) < ((B.length : Nat) : Int))
 ·skip
  have hc5r := hc5
  have hc5 := of_decide_eq_false hc5
  refine zi rfl ?_
  refine zO ?_
  refine zF ?_
  refine zc ?_
  refine za (by kernel_rfl) (fun _ => ?_)
  refine st (zd (v := .int .i64 (-1)) rfl ?_)
  refine ze ?_
  refine zw ?_
  refine zL Try.results49 (show _ = (.int .i64 (-1) : Value) from rfl) ?_
  refine ⟨-1, T, ?_, ?_, ?_, hS4⟩
  · rfl
  · decide
  · exact .inl ⟨rfl, fun i hi => hm i (by omega), rfl⟩
 ·skip
  have hc5r := hc5
  have hc5 := of_decide_eq_true hc5
  refine zk rfl ?_
  refine zo ?_
  refine zc ?_
  refine zt ?_
  refine zc ?_
  refine za (by kernel_rfl) (fun _ => ?_)
  refine st (zb (v := .int .i64 ((k : Nat) : Int)) rfl ?_)
  refine st (zd (v := .int .i64 ((k : Nat) : Int)) rfl ?_)
  refine ze ?_
  refine zc ?_
  refine za (by kernel_rfl) (fun _ => ?_)
  refine st (zb (v := .func (.func 48) #[] #[.pointer (some ⟨bx, 0, none⟩)]) rfl ?_)
  refine st (zb (v := vB) rfl ?_)
  refine st (zb (v := .int .i64 ((k : Nat) : Int)) rfl ?_)
  have hi6 : k < B.length := (by first | omega | (simp only [lens]; omega))
  refine st (zl (k := 10) (i := k) Try.underlying22 Try.sizeOf36 rfl hB.sl rfl hi6 ?_)
  have hi8 : k < B.length := (by first | omega | (simp only [lens]; omega))
  obtain ⟨hce7, hde7_0, hoke7⟩ := hB.ev hi8
  rw [← zm default hi8] at hce7 hde7_0 hoke7
  have hsm9 : ((B.getD k default).deps).length * 8 ≤ 140737488355328 := hde7_0.small
  have hcw10 := hS4.cells hce7 (hB.foot (ne_of_lt hi8))
  refine st (zr (k := 10) Try.isAgg36 Try.sizeOf36 rfl rfl hcw10 ?_)
  refine st (zj (f := 48) (vals := [.agg ((B.getD k default).cells (zT W (sb vB) (so vB + k * 10 + 3))).toArray]) (cap := [.pointer (some ⟨bx, 0, none⟩)]) (show _ = (.func (.func 48) #[] #[.pointer (some ⟨bx, 0, none⟩)] : Value) from rfl) rfl Try.call48 (D_rdy (e := (B.getD k default)) hde7_0 hoke7 hbx hS4 (hT) (hlen)) ?_)
  rintro _ w11 ⟨rfl, hS12⟩
  refine ze ?_
  cases hc13 : (xj n T (B.getD k default))
  ·skip
   have hc13r := hc13
   refine zi rfl ?_
   refine zo ?_
   refine za (by kernel_rfl) (fun _ => ?_)
   have hr14 : InR ((k + 1 : Nat) : Int) := by first | omega | (simp only [lens]; omega)
   refine st (zB (r := ((k + 1 : Nat) : Int)) (k := .i64) (a := ((k : Nat) : Int)) (b := 1) rfl rfl (by rw [show (((k : Nat) : Int) + 1 : Int) = ((k + 1 : Nat) : Int) by first | omega | (simp only [lens]; omega)]; exact zy hr14) ?_)
   refine st (zb (v := .int .i64 ((k + 1 : Nat) : Int)) rfl ?_)
   refine ze ?_
   have hL15 : T = (addL n T (B.getD k default)) := (yZ (of_decide_eq_false hc13)).symm
   rw [← hL15] at hS12
   exact ⟨_, by omega, k + 1, _, rfl, zh ⟨rfl, rfl, rfl, rfl, trivial⟩, by omega, (yE hm hc13), hS12⟩
  ·skip
   have hc13r := hc13
   refine zk rfl ?_
   refine zc ?_
   refine za (by kernel_rfl) (fun _ => ?_)
   refine st (zb (v := .int .i64 ((k : Nat) : Int)) rfl ?_)
   refine st (zd (v := .int .i64 ((k : Nat) : Int)) rfl ?_)
   refine ze ?_
   refine zw ?_
   refine zL Try.results49 (show _ = (.int .i64 ((k : Nat) : Int) : Value) from rfl) ?_
   refine ⟨((k : Nat) : Int), (addL n T (B.getD k default)), ?_, ?_, ?_, hS12⟩
   · rfl
   · show InR ((k : Nat) : Int); omega
   · exact .inr ⟨k, rfl, by omega, hc13, hm, rfl⟩

end Go.Proofs.Ytmiihhbeclhaoaa
end

section
/- Steps of the proofs of this seat: part D9. -/
set_option maxRecDepth 8000
set_option maxHeartbeats 4000000
namespace Go.Proofs.Ytmiihhbeclhaoaa
open Go.Proofs Go.RowKit

theorem FirstA.neg {n : Nat} {T B T1 : List Ev} {c : Int} (h : FirstA n T B c T1) (hc : c < 0) : ∀ i, i < B.length → xj n T (B.getD i default) = false := by
  rcases h with ⟨_, h, _⟩ | ⟨q, h, _⟩
  · exact h
  · omega
theorem FirstA.pos {n : Nat} {T B T1 : List Ev} {c : Int} (h : FirstA n T B c T1) (hc : ¬ c < 0) : ∃ q : Nat, c = (q : Int) ∧ q < B.length ∧ xj n T (B.getD q default) = true ∧ (∀ i, i < q → xj n T (B.getD i default) = false) ∧ T1 = addL n T (B.getD q default) := by
  rcases h with ⟨h, _⟩ | h
  · omega
  · exact h
theorem XK {α β : Type} {f : α → β} {l : List α} {i : Nat} {m : List β} (h : l.map f = m) : (l.eraseIdx i).map f = m.eraseIdx i := by
  rw [← h, List.eraseIdx_eq_take_drop_succ, List.eraseIdx_eq_take_drop_succ, List.map_append, List.map_take, List.map_drop]
theorem Xz {α : Type} {l : List α} {i : Nat} {x : α} (h : x ∈ l.eraseIdx i) : x ∈ l := List.mem_of_mem_eraseIdx h
theorem xH {G : Nat → Prop} {W w : World} {Rs : List HP} {b : Nat} {most : Int} {B : List Ev} {s : Nat} {n : Nat} {L : List Ev} (hs : (SetO s n L).p W G) (hS0 : Sep G W ((BufO b most B) :: Rs) w) (hmost : InR most) (hG : Good n L) (hn9 : n ≤ 1000) (hLB : L.length + B.length ≤ 1000000) : Ret Try.prog 17 [.pointer (some ⟨b, 0, none⟩), .pointer (some ⟨s, 0, none⟩)] w (fun r w' => ∃ (v : Value), r = (v : Value) ∧ Sep G W ((RowE (α := Ev) own 36 v (yn n L (B.filter (fun x => !zA L x)))) :: (BufO b most (yy n L (B.filter (fun x => !zA L x)))) :: Rs) w') := by
 refine zp (args := [.pointer (some ⟨b, 0, none⟩), .pointer (some ⟨s, 0, none⟩)]) Try.func17 rfl rfl ?_
 obtain ⟨vl1, hS2⟩ := BufO.open hS0
 have hS2t : Sep G W ((Blk b #[.int .i64 (most), vl1] 61) :: (EvW vl1 36 3 B) :: Rs) w := hS2
 have hes3 : B.length * 96 ≤ 140737488355328 := (hS2t.evwSl (i := 1) rfl).2
 obtain ⟨vv4, m5, R6, hb7, hv8, hr9⟩ := SetO.sh hs
 have hsm10 : (zz n L).length * 8 ≤ 140737488355328 := hv8.small
 refine zc ?_
 refine za (by kernel_rfl) (fun _ => ?_)
 refine st (zd (v := (.slice none 0 0)) rfl ?_)
 refine ze ?_
 refine zc ?_
 have hvl9 : (zz n L).length = n := xQ
 refine za (by kernel_rfl) (fun _ => ?_)
 refine st (zb (v := .pointer (some ⟨s, 0, none⟩)) rfl ?_)
 refine st (zj (f := 45) (vals := [.pointer (some ⟨s, 0, none⟩)]) (cap := []) rfl rfl Try.call45 (D_Vec  hs hS2t) ?_)
 rintro v11 w12 ⟨_, rfl, hS13⟩
 have hr14 := hS13.row (i := 0) rfl
 have hr14s : _ * 8 ≤ _ := hr14.2
 refine st (zJ (n := (zz n L).length) Try.underlying34 rfl hr14.1 ?_)
 refine st (zj (f := 11) (vals := [.int .i64 (((zz n L).length : Nat) : Int)]) (cap := []) rfl rfl Try.call11 (Zg (n := (zz n L).length) (by first | omega | (refine ⟨?_, ?_⟩ <;> omega)) hS13) ?_)
 rintro _ w16 ⟨b15, rfl, hS17⟩
 refine st (ye Try.zeroValue26 ?_)
 intro w20 b19 hn18
 have hS21 := hS17.new hn18
 refine stn (yd (v := .pointer (some ⟨b15, 0, none⟩)) (c := [.pointer none]) (c' := [.pointer (some ⟨b15, 0, none⟩)]) Try.sizeOf26 rfl rfl (hS21.blk (i := 0) rfl) rfl rfl rfl ?_)
 intro w22 hp23
 have hS24 := hS21.pt0 hp23
 refine ze ?_
 refine zc ?_
 refine zc ?_
 rw [hvl9] at hS24
 have hS25 : Sep G W ((Blk b19 #[.pointer (some ⟨b15, 0, none⟩)] 26) :: (SetO b15 n ([] : List Ev)) :: (RowE (α := Int) own 3 v11 (zz n L)) :: (Blk b #[.int .i64 (most), vl1] 61) :: (EvW vl1 36 3 B) :: Rs) w22 := hS24
 refine za (by kernel_rfl) (fun _ => ?_)
 refine st (zb (v := .pointer (some ⟨s, 0, none⟩)) rfl ?_)
 refine st (zj (f := 29) (vals := [.pointer (some ⟨s, 0, none⟩)]) (cap := []) rfl rfl Try.call29 (Jf  hs hS25 (hG.ids) (hG.srt) ((by omega))) ?_)
 rintro v26 w27 ⟨_, rfl, hS28⟩
 have hr29 := hS28.row (i := 0) rfl
 have hr29s : _ * 96 ≤ _ := hr29.2
 refine st (zJ (n := L.length) Try.underlying22 rfl hr29.1 ?_)
 refine st (zb (v := .int .i64 (0)) rfl ?_)
 refine ze ?_
 refine zt ?_
 obtain ⟨G30, hA32, hB33, hS34, hk35⟩ := hS28.lend
 have hrd36 := RowE.rd hA32
 have hrd36s : _ * 96 ≤ _ := hrd36.small
 refine zP (fun mq σ wq => ∃ (k : Nat) (ρ : Env), mq = L.length - k ∧ σ = zQ ρ [(0, .pointer (some ⟨b, 0, none⟩)), (1, .pointer (some ⟨s, 0, none⟩)), (5, .pointer (some ⟨b19, 0, none⟩)), (17, v26), (18, .int .i64 ((L.length : Nat) : Int)), (19, .int .i64 ((k : Nat) : Int))] ∧ (k ≤ L.length) ∧ Sep G30 w27 ((Blk b19 #[.pointer (some ⟨b15, 0, none⟩)] 26) :: (SetO b15 n (yX n (L.take k))) :: (RowE (α := Int) own 3 v11 (zz n L)) :: (Blk b #[.int .i64 (most), vl1] 61) :: (EvW vl1 36 3 B) :: Rs) wq) ⟨0, _, rfl, zh ⟨rfl, rfl, rfl, rfl, rfl, rfl, trivial⟩, Nat.zero_le _, hS34⟩ ?_
 rintro m38 σ39 w37 ⟨k, ρl1, rfl, rfl, hkk, hS40⟩
 refine zc ?_
 refine za (by kernel_rfl) (fun _ => ?_)
 refine st (zH (k := .i64) (a := ((k : Nat) : Int)) (b := ((L.length : Nat) : Int)) rfl rfl ?_)
 refine ze ?_
 refine zc ?_
 cases hc41 : decide (((k : Nat) : Int) < ((L.length : Nat) : Int))
 ·skip
  have hc41r := hc41
  have hc41 := of_decide_eq_false hc41
  refine zi rfl ?_
  refine zO ?_
  refine zF ?_
  refine zc ?_
  have hS42 := hk35 _ _ hS40
  have hlk9 : yX n (L.take k) = L := by rw [Zb hG k (by omega), show k = L.length by omega, List.take_length]
  rw [hlk9] at hS42
  have hS43 : Sep G W ((RowE (α := Ev) own 36 v26 L) :: (Blk b19 #[.pointer (some ⟨b15, 0, none⟩)] 26) :: (SetO b15 n L) :: (RowE (α := Int) own 3 v11 (zz n L)) :: (Blk b #[.int .i64 (most), vl1] 61) :: (EvW vl1 36 3 B) :: Rs) w37 := hS42
  refine za (by kernel_rfl) (fun _ => ?_)
  refine st (zd (v := (.slice none 0 0)) rfl ?_)
  refine ze ?_
  refine zc ?_
  refine za (by kernel_rfl) (fun _ => ?_)
  refine st (xG (vals := [.pointer (some ⟨b19, 0, none⟩)]) rfl ?_)
  refine st (zd (v := .func (.func 46) #[] #[.pointer (some ⟨b19, 0, none⟩)]) rfl ?_)
  refine ze ?_
  refine zc ?_
  have hS44 := hS43.mv1
  obtain ⟨G45, hA47, hB48, hS49, hk50⟩ := hS44.lend
  have hS51 := hS49.mv1
  obtain ⟨G52, hA54, hB55, hS56, hk57⟩ := hS51.lend
  obtain ⟨vv58, m59, R60, hb61, hv62, hr63⟩ := SetO.sh hA54
  have hsm64 : (zz n L).length * 8 ≤ 140737488355328 := hv62.small
  refine za (by kernel_rfl) (fun _ => ?_)
  refine st (zb (v := .pointer (some ⟨b, 0, none⟩)) rfl ?_)
  refine st (zb (v := .pointer (some ⟨b, 0, none⟩)) rfl ?_)
  refine st (zn (b := b) (o := 0) rfl ?_)
  refine st (xl rfl ?_)
  refine st (zg (v := vl1) Try.isAgg22 rfl (zf (hS56.blk (i := 2) rfl) rfl) ?_)
  refine st (zb (v := .func (.func 46) #[] #[.pointer (some ⟨b19, 0, none⟩)]) rfl ?_)
  have hS65 := hS56.mv3
  refine st (zj (f := 47) (vals := [vl1, .func (.func 46) #[] #[.pointer (some ⟨b19, 0, none⟩)]]) (cap := []) rfl rfl Try.call47 (QT (bx := b19) (bt := b15) (n := n) (T := L) (Blk.base hA47 hB55) hA54 hS65) ?_)
  rintro v266 w67 ⟨_, rfl, hS68⟩
  refine st (zn (b := b) (o := 0) rfl ?_)
  refine st (xl rfl ?_)
  refine stn (yd (v := v266) (c := [.int .i64 (most), vl1]) (c' := [.int .i64 (most), v266]) Try.sizeOf22 rfl rfl (hS68.blk (i := 3) rfl) (hS68.evwSl (i := 0) rfl).1.one rfl rfl ?_)
  intro w69 hp70
  have hS71 := hS68.pt3 hp70
  refine ze ?_
  refine zc ?_
  have hS72 := hk57 _ _ hS71
  refine za (by kernel_rfl) (fun _ => ?_)
  refine st (xG (vals := [.pointer (some ⟨b19, 0, none⟩)]) rfl ?_)
  refine st (zd (v := .func (.func 48) #[] #[.pointer (some ⟨b19, 0, none⟩)]) rfl ?_)
  refine ze ?_
  refine zc ?_
  refine zc ?_
  refine za (by kernel_rfl) (fun _ => ?_)
  refine st (zb (v := .pointer (some ⟨b, 0, none⟩)) rfl ?_)
  refine st (zn (b := b) (o := 0) rfl ?_)
  refine st (xl rfl ?_)
  refine st (zg (v := v266) Try.isAgg22 rfl (zf (hS72.blk (i := 4) rfl) rfl) ?_)
  refine st (zb (v := .func (.func 48) #[] #[.pointer (some ⟨b19, 0, none⟩)]) rfl ?_)
  have hS73 := hS72.mv1
  obtain ⟨G74, hA76, hB77, hS78, hk79⟩ := hS73.lend
  have hrd80 := EvW.rd hA76
  have hrd80s : _ * 96 ≤ _ := hrd80.small
  refine st (zj (f := 49) (vals := [v266, .func (.func 48) #[] #[.pointer (some ⟨b19, 0, none⟩)]]) (cap := []) rfl rfl Try.call49 (Wz (B := (B.filter (fun x => !zA L x))) (vB := v266) hrd80 (Blk.base hA47 hB77) hS78 ((by omega)) (by first | exact hI9.good.addL.len | exact hG.len)) ?_)
  rintro _ w85 ⟨c81, T182, rfl, hc983, hcn84, hS86⟩
  have hS87 := hk79 _ _ hS86
  refine st (zd (v := .int .i64 (c81)) rfl ?_)
  refine ze ?_
  refine zt ?_
  have hfl9 : (B.filter (fun x => !zA L x)).length ≤ B.length := List.length_filter_le ..
  have hS88 : Sep G45 w37 ((RowE (α := Ev) own 36 (.slice none 0 0) ([] : List Ev)) :: (EvW v266 36 3 (B.filter (fun x => !zA L x))) :: (SetO b15 n T182) :: (RowE (α := Ev) own 36 v26 L) :: (RowE (α := Int) own 3 v11 (zz n L)) :: (Blk b #[.int .i64 (most), v266] 61) :: Rs) w85 := hS87.rowNil own 36
  have hS89 : Sep G45 w37 ((Blk b #[.int .i64 (most), v266] 61) :: (EvW v266 36 3 (B.filter (fun x => !zA L x))) :: (SetO b15 n T182) :: (RowE (α := Ev) own 36 (.slice none 0 0) ([] : List Ev)) :: Rs) w85 := hS88.sel 6 [5, 1, 2, 0] (Nat.le_add_left _ _) rfl rfl
  refine zP (fun mq σ wq => ∃ (O9 : List Ev) (T9 : List Ev) (B9 : List Ev) (c9 : Int) (T8 : List Ev) (vo : Value) (vl9 : Value) (ρ : Env), mq = B9.length ∧ σ = zQ ρ [(0, .pointer (some ⟨b, 0, none⟩)), (5, .pointer (some ⟨b19, 0, none⟩)), (8, vo), (10, .func (.func 48) #[] #[.pointer (some ⟨b19, 0, none⟩)]), (11, .int .i64 (c9))] ∧ (InR c9) ∧ (FirstA n T9 B9 c9 T8) ∧ (RdI n L (B.filter (fun x => !zA L x)) O9 T9 B9) ∧ Sep G45 w37 ((Blk b #[.int .i64 (most), vl9] 61) :: (EvW vl9 36 3 B9) :: (SetO b15 n T8) :: (RowE (α := Ev) own 36 vo O9) :: Rs) wq) ⟨[], L, (B.filter (fun x => !zA L x)), c81, T182, (.slice none 0 0), v266, _, rfl, zh ⟨rfl, rfl, rfl, rfl, rfl, trivial⟩, hc983, hcn84, (RdI.start hG (by omega)), hS89⟩ ?_
  rintro m91 σ92 w90 ⟨O9, T9, B9, c9, T8, vo, vl9, ρl2, rfl, rfl, hc99, hF9, hI9, hS93⟩
  have hr94 := hS93.row (i := 3) rfl
  have hr94s : _ * 96 ≤ _ := hr94.2
  have hes95 : B9.length * 96 ≤ 140737488355328 := (hS93.evwSl (i := 1) rfl).2
  have hol9 := hI9.ol
  refine zc ?_
  refine zc ?_
  refine za (by kernel_rfl) (fun _ => ?_)
  refine st (zb (v := .int .i64 (c9)) rfl ?_)
  refine st (xv (k := .i64) (a := c9) (b := 0) rfl rfl ?_)
  refine ze ?_
  cases hc96 : decide (0 ≤ c9)
  ·skip
   have hc96r := hc96
   have hc96 := of_decide_eq_false hc96
   have hfn9 := hF9.neg (by have h9 := of_decide_eq_false hc96r; omega)
   refine zi rfl ?_
   refine zO ?_
   refine zF ?_
   refine zc ?_
   obtain ⟨hO8, hB8⟩ := hI9.fin hfn9
   rw [hO8] at hS93
   have hS97 : Sep G45 w37 ((Blk b #[.int .i64 (most), vl9] 61) :: (EvW vl9 36 3 B9) :: (SetO b15 n T8) :: (RowE (α := Ev) own 36 vo (yn n L (B.filter (fun x => !zA L x)))) :: Rs) w90 := hS93
   have hr98 := hS97.row (i := 3) rfl
   have hr98s : _ * 96 ≤ _ := hr98.2
   rw [hB8] at hS97
   have hS99 : Sep G45 w37 ((Blk b #[.int .i64 (most), vl9] 61) :: (EvW vl9 36 3 (yy n L (B.filter (fun x => !zA L x)))) :: (SetO b15 n T8) :: (RowE (α := Ev) own 36 vo (yn n L (B.filter (fun x => !zA L x)))) :: Rs) w90 := hS97
   refine za (by kernel_rfl) (fun _ => ?_)
   refine st (zb (v := vo) rfl ?_)
   refine st (zd (v := vo) rfl ?_)
   refine ze ?_
   refine zw ?_
   refine zL Try.results17 (show _ = (vo : Value) from rfl) ?_
   have hS100 := hk50 _ _ hS99
   have hS101 : Sep G W ((Blk b #[.int .i64 (most), vl9] 61) :: (EvW vl9 36 3 (yy n L (B.filter (fun x => !zA L x)))) :: (Blk b19 #[.pointer (some ⟨b15, 0, none⟩)] 26) :: (SetO b15 n T8) :: (RowE (α := Ev) own 36 vo (yn n L (B.filter (fun x => !zA L x)))) :: Rs) w90 := hS100.sel 5 [1, 2, 0, 3, 4] (Nat.le_add_left _ _) rfl rfl
   have hS102 : Sep G W ((BufO b most (yy n L (B.filter (fun x => !zA L x)))) :: (Blk b19 #[.pointer (some ⟨b15, 0, none⟩)] 26) :: (SetO b15 n T8) :: (RowE (α := Ev) own 36 vo (yn n L (B.filter (fun x => !zA L x)))) :: Rs) w90 := BufO.close (most := most) (B := (yy n L (B.filter (fun x => !zA L x)))) hS101
   have hS103 : Sep G W ((RowE (α := Ev) own 36 vo (yn n L (B.filter (fun x => !zA L x)))) :: (BufO b most (yy n L (B.filter (fun x => !zA L x)))) :: Rs) w90 := hS102.sel 4 [3, 0] (Nat.le_add_left _ _) rfl rfl
   refine ⟨vo, rfl, hS103⟩
  ·skip
   have hc96r := hc96
   have hc96 := of_decide_eq_true hc96
   obtain ⟨q9, hcq9, hq9, hcan9, hbf9, hT9⟩ := hF9.pos (by have h9 := of_decide_eq_true hc96r; omega)
   subst hcq9 hT9
   refine zk rfl ?_
   refine zo ?_
   refine zc ?_
   refine zt ?_
   refine zc ?_
   have hS104 := hS93.mv1
   obtain ⟨ps, hp9, hok9, hS105⟩ := hS104.evwFlat
   have hpl9 : ps.length = B9.length := by rw [← hp9, List.length_map]
   obtain ⟨hfa9, hfm9, hfl8⟩ := ZJ hp9 hq9
   have hok8 := hok9 _ hfm9
   have hS106 := Sep.starOut (i := q9) (hS105.sel 5 [1, 0, 2, 3, 4] (Nat.le_add_left _ _) rfl rfl) (by omega)
   have hS107 : Sep G45 w37 ((RowE (α := Int) own 3 ((ps.getD q9 default).2.1) ((ps.getD q9 default).1.deps)) :: (StarD 3 (ps.eraseIdx q9)) :: (RowE (α := EvP) own 36 vl9 ps) :: (Blk b #[.int .i64 (most), vl9] 61) :: (SetO b15 n (addL n T9 (B9.getD q9 default))) :: (RowE (α := Ev) own 36 vo O9) :: Rs) w90 := hS106
   have hr108 := hS107.row (i := 2) rfl
   have hr108s : _ * 96 ≤ _ := hr108.2
   have hr109 := hS107.row (i := 0) rfl
   have hr109s : _ * 8 ≤ _ := hr109.2
   refine za (by kernel_rfl) (fun _ => ?_)
   refine st (zb (v := vo) rfl ?_)
   refine st (zb (v := .pointer (some ⟨b, 0, none⟩)) rfl ?_)
   refine st (zn (b := b) (o := 0) rfl ?_)
   refine st (xl rfl ?_)
   refine st (zg (v := vl9) Try.isAgg22 rfl (zf (hS107.blk (i := 3) rfl) rfl) ?_)
   refine st (zb (v := .int .i64 ((q9 : Nat) : Int)) rfl ?_)
   have hi110 : q9 < ps.length := (by first | omega | (simp only [lens]; omega))
   refine st (zl (k := 10) (i := q9) Try.underlying22 Try.sizeOf36 rfl hr108.1 rfl hi110 ?_)
   have hi112 : q9 < ps.length := (by first | omega | (simp only [lens]; omega))
   obtain ⟨_, _, hce111, rfl⟩ := hS107.rowAt (i := 2) (j := q9) rfl hi112
   rw [← zm default hi112] at hce111
   have hce111 : CellsAt _ _ _ ((ps.getD q9 default).1.cells (ps.getD q9 default).2.1) := hce111
   refine st (zr (k := 10) Try.isAgg36 Try.sizeOf36 rfl rfl hce111 ?_)
   refine st (zD (k := 10) (parts' := [(0, .agg ((ps.getD q9 default).1.cells (ps.getD q9 default).2.1).toArray)]) (c := ((ps.getD q9 default).1.cells (ps.getD q9 default).2.1).toArray) Try.underlying22 Try.sizeOf36 Try.zeroValue36 (by decide) rfl (by kernel_rfl) ?_)
   intro w115 b114 hn113
   have hS116 := hS107.new hn113
   have hbk120 := hS116.blk (i := 0) rfl
   have hS121 : Sep G45 w37 ((RowE (α := Ev) own 36 vo O9) :: (RowE (α := Int) own 3 ((ps.getD q9 default).2.1) ((ps.getD q9 default).1.deps)) :: (StarD 3 (ps.eraseIdx q9)) :: (RowE (α := EvP) own 36 vl9 ps) :: (Blk b #[.int .i64 (most), vl9] 61) :: (SetO b15 n (addL n T9 (B9.getD q9 default))) :: Rs) w115 := hS116.sel 7 [6, 1, 2, 3, 4, 5] (Nat.le_add_left _ _) rfl rfl
   refine st (zZ (src := own) (bytes := 96) (x1 := (ps.getD q9 default).1) hS121 xZ rfl rfl hbk120 (fun _ _ hN => ⟨_, rfl, RowE.soft hN, hok8⟩) (by first | omega | (simp only [List.length_append, List.length_cons, List.length_nil, List.length_take, List.length_drop]; omega)) rfl ?_)
   intro v118 w117 hS119
   have hr122 := hS119.row (i := 0) rfl
   have hr122s : _ * 96 ≤ _ := hr122.2
   refine st (zd (v := v118) rfl ?_)
   refine ze ?_
   rw [hfa9] at hS119
   have hS123 : Sep G45 w37 ((RowE (α := Ev) own 36 v118 (O9 ++ [B9.getD q9 default])) :: (StarD 3 (ps.eraseIdx q9)) :: (RowE (α := EvP) own 36 vl9 ps) :: (Blk b #[.int .i64 (most), vl9] 61) :: (SetO b15 n (addL n T9 (B9.getD q9 default))) :: Rs) w117 := hS119
   have hr124 := hS123.row (i := 0) rfl
   have hr124s : _ * 96 ≤ _ := hr124.2
   refine za (by kernel_rfl) (fun _ => ?_)
   refine st (zb (v := .pointer (some ⟨b, 0, none⟩)) rfl ?_)
   refine st (zb (v := .pointer (some ⟨b, 0, none⟩)) rfl ?_)
   refine st (zn (b := b) (o := 0) rfl ?_)
   refine st (xl rfl ?_)
   refine st (zg (v := vl9) Try.isAgg22 rfl (zf (hS123.blk (i := 3) rfl) rfl) ?_)
   refine st (zb (v := .int .i64 ((q9 : Nat) : Int)) rfl ?_)
   refine st (zb (v := .int .i64 ((q9 : Nat) : Int)) rfl ?_)
   have hr125 : InR ((q9 + 1 : Nat) : Int) := by first | omega | (simp only [lens]; omega)
   refine st (zB (r := ((q9 + 1 : Nat) : Int)) (k := .i64) (a := ((q9 : Nat) : Int)) (b := 1) rfl rfl (by rw [show (((q9 : Nat) : Int) + 1 : Int) = ((q9 + 1 : Nat) : Int) by first | omega | (simp only [lens]; omega)]; exact zy hr125) ?_)
   have hS126 := hS123.mv2
   refine st (zj (f := 50) (vals := [vl9, .int .i64 ((q9 : Nat) : Int), .int .i64 ((q9 + 1 : Nat) : Int)]) (cap := []) rfl rfl Try.call50 (KJ (i := q9) (by first | omega | (refine ⟨?_, ?_⟩ <;> omega)) hS126) ?_)
   rintro v2127 w128 ⟨_, rfl, hS129⟩
   have hr130 := hS129.row (i := 0) rfl
   have hr130s : _ * 96 ≤ _ := hr130.2
   refine st (zn (b := b) (o := 0) rfl ?_)
   refine st (xl rfl ?_)
   refine stn (yd (v := v2127) (c := [.int .i64 (most), vl9]) (c' := [.int .i64 (most), v2127]) Try.sizeOf22 rfl rfl (hS129.blk (i := 3) rfl) hr130.1.one rfl rfl ?_)
   intro w131 hp132
   have hS133 := hS129.pt3 hp132
   refine ze ?_
   have hS134 : Sep G45 w37 ((RowE (α := EvP) own 36 v2127 (ps.eraseIdx q9)) :: (StarD 3 (ps.eraseIdx q9)) :: (RowE (α := Ev) own 36 v118 (O9 ++ [B9.getD q9 default])) :: (Blk b #[.int .i64 (most), v2127] 61) :: (SetO b15 n (addL n T9 (B9.getD q9 default))) :: Rs) w131 := hS133.sel 5 [0, 2, 1, 3, 4] (Nat.le_add_left _ _) rfl rfl
   have hS135 : Sep G45 w37 ((EvW v2127 36 3 (B9.eraseIdx q9)) :: (RowE (α := Ev) own 36 v118 (O9 ++ [B9.getD q9 default])) :: (Blk b #[.int .i64 (most), v2127] 61) :: (SetO b15 n (addL n T9 (B9.getD q9 default))) :: Rs) w131 := Sep.evwOf hS134 (XK hp9) (fun s hs => hok9 s (Xz hs))
   have hle9 : (B9.eraseIdx q9).length = B9.length - 1 := List.length_eraseIdx_of_lt hq9
   have hal9 := xN (n := n) (L := T9) (e := B9.getD q9 default)
   have hil9 := hI9.len
   have hes136 : (B9.eraseIdx q9).length * 96 ≤ 140737488355328 := (hS135.evwSl (i := 0) rfl).2
   refine za (by kernel_rfl) (fun _ => ?_)
   refine st (zb (v := .pointer (some ⟨b, 0, none⟩)) rfl ?_)
   refine st (zn (b := b) (o := 0) rfl ?_)
   refine st (xl rfl ?_)
   refine st (zg (v := v2127) Try.isAgg22 rfl (zf (hS135.blk (i := 2) rfl) rfl) ?_)
   refine st (zb (v := .func (.func 48) #[] #[.pointer (some ⟨b19, 0, none⟩)]) rfl ?_)
   obtain ⟨G137, hA139, hB140, hS141, hk142⟩ := hS135.lend
   have hrd143 := EvW.rd hA139
   have hrd143s : _ * 96 ≤ _ := hrd143.small
   have hS144 := hS141.mv2
   refine st (zj (f := 49) (vals := [v2127, .func (.func 48) #[] #[.pointer (some ⟨b19, 0, none⟩)]]) (cap := []) rfl rfl Try.call49 (Wz (B := (B9.eraseIdx q9)) (vB := v2127) hrd143 (Blk.base hA47 hB140) hS144 ((by omega)) (by first | exact hI9.good.addL.len | exact hG.len)) ?_)
   rintro _ w149 ⟨c145, T1146, rfl, hc9147, hcn148, hS150⟩
   have hS151 := hk142 _ _ hS150
   refine st (zd (v := .int .i64 (c145)) rfl ?_)
   refine ze ?_
   have hS152 := hS151.mv3
   exact ⟨_, (by rw [List.length_eraseIdx_of_lt hq9]; omega), _, _, _, c145, T1146, v118, v2127, _, rfl, zh ⟨rfl, rfl, rfl, rfl, rfl, trivial⟩, hc9147, hcn148, (hI9.step hq9 hcan9 hbf9), hS152⟩
 ·skip
  have hc41r := hc41
  have hc41 := of_decide_eq_true hc41
  refine zk rfl ?_
  refine zo ?_
  refine zc ?_
  refine zt ?_
  refine zc ?_
  refine za (by kernel_rfl) (fun _ => ?_)
  have hi153 : k < L.length := (by first | omega | (simp only [lens]; omega))
  refine st (zl (k := 10) (i := k) Try.underlying22 Try.sizeOf36 rfl hrd36.sl rfl hi153 ?_)
  have hi155 : k < L.length := (by first | omega | (simp only [lens]; omega))
  obtain ⟨hce154, hde154_0, hoke154⟩ := hrd36.ev hi155
  rw [← zm default hi155] at hce154 hde154_0 hoke154
  have hsm156 : ((L.getD k default).deps).length * 8 ≤ 140737488355328 := hde154_0.small
  have hcw157 := hS40.cells hce154 (hrd36.foot (ne_of_lt hi155))
  refine st (zr (k := 10) Try.isAgg36 Try.sizeOf36 rfl rfl hcw157 ?_)
  refine st (ye Try.zeroValue36 ?_)
  intro w160 b159 hn158
  have hS161 := hS40.new hn158
  refine stn (zY (v := .agg ((L.getD k default).cells (zT w27 (sb v26) (so v26 + k * 10 + 3))).toArray) (c' := ((L.getD k default).cells (zT w27 (sb v26) (so v26 + k * 10 + 3))).toArray) Try.sizeOf36 rfl rfl (hS161.blk (i := 0) rfl) (yU ⟨rfl, rfl, rfl, hde154_0.sl.one, rfl, rfl, rfl, rfl, rfl, rfl, trivial⟩) (Nat.le_of_ble_eq_true rfl) rfl ?_)
  intro w162 hp163
  have hS164 := hS161.pt0 hp163
  refine ze ?_
  refine za (by kernel_rfl) (fun _ => ?_)
  refine st (zg (v := .pointer (some ⟨b15, 0, none⟩)) Try.isAgg26 rfl (zf (hS164.blk (i := 1) rfl) rfl) ?_)
  refine st (zr (k := 10) Try.isAgg36 Try.sizeOf36 rfl rfl (CellsAt.all (hS164.blk (i := 0) rfl)) ?_)
  have hS165 := hS164.mv2
  refine st (zj (f := 13) (vals := [.pointer (some ⟨b15, 0, none⟩), .agg ((L.getD k default).cells (zT w27 (sb v26) (so v26 + k * 10 + 3))).toArray]) (cap := []) rfl rfl Try.call13 (Ye (e := (L.getD k default)) hde154_0 hoke154 hS165 ((Nat.le_trans xB (by omega))) (laidL_good.len)) ?_)
  rintro _ w166 ⟨rfl, hS167⟩
  refine ze ?_
  refine za (by kernel_rfl) (fun _ => ?_)
  have hr168 : InR ((k + 1 : Nat) : Int) := by first | omega | (simp only [lens]; omega)
  refine st (zB (r := ((k + 1 : Nat) : Int)) (k := .i64) (a := ((k : Nat) : Int)) (b := 1) rfl rfl (by rw [show (((k : Nat) : Int) + 1 : Int) = ((k + 1 : Nat) : Int) by first | omega | (simp only [lens]; omega)]; exact zy hr168) ?_)
  refine st (zb (v := .int .i64 ((k + 1 : Nat) : Int)) rfl ?_)
  refine ze ?_
  have hS169 : Sep G30 w27 ((Blk b19 #[.pointer (some ⟨b15, 0, none⟩)] 26) :: (SetO b15 n (addL n (yX n (L.take k)) (L.getD k default))) :: (RowE (α := Int) own 3 v11 (zz n L)) :: (Blk b #[.int .i64 (most), vl1] 61) :: (EvW vl1 36 3 B) :: Rs) w166 := hS167.sel 6 [2, 0, 3, 4, 5] (Nat.le_add_left _ _) rfl rfl
  have hL170 : (yX n (L.take (k + 1))) = (addL n (yX n (L.take k)) (L.getD k default)) := (Yh (by omega)).symm
  rw [← hL170] at hS169
  exact ⟨_, by omega, k + 1, _, rfl, zh ⟨rfl, rfl, rfl, rfl, rfl, rfl, trivial⟩, by omega, hS169⟩

end Go.Proofs.Ytmiihhbeclhaoaa
end
