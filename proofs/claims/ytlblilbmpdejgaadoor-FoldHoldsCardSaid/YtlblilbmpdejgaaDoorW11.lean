import Derived.Test.YtlblilbmpdejgaaDoorW10
set_option linter.unusedSimpArgs false
set_option linter.unusedVariables false
set_option linter.unusedSectionVars false
set_option linter.deprecated false
/- Steps of the proofs of this seat: part F17. -/
set_option maxRecDepth 8000
set_option maxHeartbeats 4000000
namespace Go.Proofs.YtlblilbmpdejgaaDoor
open Go.Proofs Go.RowKit

theorem QA {d : Dcl} {K : Int × Int} {X : List Ent} {cn : Nat} (h : cn = zO K X) : (((!((zi d X K).isSome == decide (0 < ((cn : Nat) : Int)))) || !decide ((yd d K X).ver = ((cn : Nat) : Int))) || (!(zi d X K).isSome && decide (0 < (((stL d K X).length : Nat) : Int)))) = false := by
  subst h
  by_cases hv : zO K X = 0
  · have h1 : zi d X K = none := if_pos hv
    have h2 : stL d K X = [] := if_pos hv
    rw [h1, h2]; unfold yd; rw [hv]; simp
  · have h1 : zi d X K = some (zO K X, yv d K X) := if_neg hv
    rw [h1]; unfold yd; simp; omega
theorem Uy {d : Dcl} {K : Int × Int} {X : List Ent} (h : (!(zi d X K).isSome) = false) : ¬ zO K X = 0 := fun hv => by
  have h1 : zi d X K = none := if_pos hv
  rw [h1] at h; cases h
theorem Us {t : Typ} {C : List Cel} {i : Nat} (hR : Right t C) (hL : Led t C) (hi : i < C.length) : (((((t.fields.getD i default).floor && decide ((C.getD i default).n < 0)) || (decide ((t.fields.getD i default).kind = 4) && !xz (t.fields.getD i default) (C.getD i default).n)) || decide (64 < (((C.getD i default).set.length : Nat) : Int))) || (!decide ((t.fields.getD i default).kind = 3) && decide (0 < (((C.getD i default).set.length : Nat) : Int)))) = false := by
  have h1 : ((t.fields.getD i default).floor && decide ((C.getD i default).n < 0)) = false := by
    cases hf : (t.fields.getD i default).floor
    · rfl
    · have := hR.floor i hi hf
      rw [decide_eq_false (by omega)]; rfl
  have h2 : (decide ((t.fields.getD i default).kind = 4) && !xz (t.fields.getD i default) (C.getD i default).n) = false := by
    by_cases hk : (t.fields.getD i default).kind = 4
    · rw [hL i hi hk]; exact Bool.and_false _
    · rw [decide_eq_false hk]; rfl
  have h4 : (!decide ((t.fields.getD i default).kind = 3) && decide (0 < (((C.getD i default).set.length : Nat) : Int))) = false := by
    by_cases hk : (t.fields.getD i default).kind = 3
    · rw [decide_eq_true hk]; rfl
    · rw [hR.set i hi hk]; exact Bool.and_false _
  rw [h1, h2, h4, decide_eq_false (by have := hR.most i hi; omega)]; rfl
set_option maxHeartbeats 8000000 in
theorem XH {G : Nat → Prop} {W w : World} {Rs : List HP} {d : Dcl} {dd0 : Value} (hdd0 : RdS W G dd0 d.types) {dd1 : Value} (hdd1 : RdS W G dd1 d.projs) (od : d.Ok) {n : Int} (hn : InR n) {vl : Value} {l : List Ev} (hl : RdS W G vl l) (hKN : RdS W G (.slice (some ⟨0, 0, none⟩) 6 6) kindsL) (hS0 : Sep G W Rs w) : Ret Tryd.prog 6 [.agg (d.cells dd0 dd1).toArray, .int .i64 (n), vl] w (fun r w' => r = (.bool true : Value) ∧ Sep G W Rs w') := by
 have hdd0s : _ * 24 ≤ _ := hdd0.small
 have hdd1s : _ * 40 ≤ _ := hdd1.small
 have hls : _ * 96 ≤ _ := hl.small
 have hKNs : _ * 8 ≤ _ := hKN.small
 refine zr (args := [.agg (d.cells dd0 dd1).toArray, .int .i64 (n), vl]) Tryd.func6 rfl rfl ?_
 refine ze ?_
 refine za (by kernel_rfl) (fun _ => ?_)
 refine st (yc (v := .agg (d.cells dd0 dd1).toArray) rfl ?_)
 intro w3 b2 hn1
 have hS4 := hS0.new hn1
 refine st (zd (v := .bool false) rfl ?_)
 refine zg ?_
 refine ze ?_
 refine ze ?_
 refine za (by kernel_rfl) (fun _ => ?_)
 refine st (zn (k := 2) Tryd.isAgg25 Tryd.sizeOf25 rfl rfl (CellsAt.all (hS4.blk (i := 0) rfl)) ?_)
 refine st (zu (f := 20) (vals := [.agg (d.cells dd0 dd1).toArray]) (cap := []) rfl rfl Tryd.call20 (UH (d := d) hdd0 hdd1 od hS4) ?_)
 rintro _ w7 ⟨b5, rfl, hb6, hS8⟩
 refine st (yB (a := b5) rfl ?_)
 refine zg ?_
 cases hc9 : !b5
 ·skip
  have hc9r := hc9
  try simp only [zk] at hc9
  have hdo := hb6 hc9
  refine zo rfl ?_
  refine zw ?_
  refine ze ?_
  refine za (by kernel_rfl) (fun _ => ?_)
  refine st (zb (v := .int .i64 (n)) rfl ?_)
  refine st (zu (f := 13) (vals := [.int .i64 (n), .int .i64 (64)]) (cap := []) rfl rfl Tryd.call13 (Qx (x := n) (n := 64) hn (by first | omega | (refine ⟨?_, ?_⟩ <;> omega)) hS8) ?_)
  rintro _ w12 ⟨q10, rfl, hq11, hS13⟩
  have hr14 : InR ((1 + q10 : Nat) : Int) := by first | omega | (simp only [lens]; omega)
  refine st (ye (r := ((1 + q10 : Nat) : Int)) (k := .i64) (a := 1) (b := ((q10 : Nat) : Int)) rfl rfl (by rw [show (1 + ((q10 : Nat) : Int) : Int) = ((1 + q10 : Nat) : Int) by first | omega | (simp only [lens]; omega)]; exact zS hr14) ?_)
  refine st (zb (v := vl) rfl ?_)
  refine st (zu (f := 22) (vals := [.int .i64 ((1 + q10 : Nat) : Int), vl]) (cap := []) rfl rfl Tryd.call22 (VX (n := ((1 + q10 : Nat) : Int)) (l := l) (vl := vl) hr14 hl hS13) ?_)
  rintro v15 w19 ⟨_, l216, rfl, h6017, hft18, hS20⟩
  have hr21 := hS20.row (i := 0) rfl
  have hr21s : _ * 96 ≤ _ := hr21.2
  refine st (zd (v := v15) rfl ?_)
  refine zg ?_
  refine ze ?_
  have h60 := h6017
  obtain ⟨G22, hA24, hB25, hS26, hk27⟩ := hS20.lend
  have hrd28 := RowE.rdB hA24 hB25
  have hrd28s : _ * 96 ≤ _ := hrd28.small
  refine za (by kernel_rfl) (fun _ => ?_)
  refine st (zn (k := 2) Tryd.isAgg25 Tryd.sizeOf25 rfl rfl (CellsAt.all (hS26.blk (i := 0) rfl)) ?_)
  refine st (zu (f := 24) (vals := [.agg (d.cells dd0 dd1).toArray]) (cap := []) rfl rfl Tryd.call24 (VL (d := d) (RdS.base hdd0 hB25) (RdS.base hdd1 hB25) od hS26) ?_)
  rintro _ w30 ⟨b29, rfl, hS31⟩
  refine st (zd (v := .pointer (some ⟨b29, 0, none⟩)) rfl ?_)
  refine zg ?_
  refine ze ?_
  refine ze ?_
  refine za (by kernel_rfl) (fun _ => ?_)
  refine st (zb (v := .pointer (some ⟨b29, 0, none⟩)) rfl ?_)
  refine st (ZC (b := b29) (o := 0) Tryd.underlying51 rfl ?_)
  refine zg ?_
  refine zo rfl ?_
  refine zw ?_
  refine ze ?_
  refine ze ?_
  refine za (by kernel_rfl) (fun _ => ?_)
  refine st (zd (v := .int .i64 (0)) rfl ?_)
  refine zg ?_
  refine zy ?_
  refine yr (fun mq σ wq => ∃ (k : Nat) (ρ : Env), mq = l216.length - k ∧ σ = yt ρ [(2, v15), (3, .pointer (some ⟨b2, 0, none⟩)), (7, .pointer (some ⟨b29, 0, none⟩)), (8, .int .i64 ((k : Nat) : Int))] ∧ (k ≤ l216.length) ∧ Sep G22 w19 ((ViewO b29 d (yK d (l216.take k)) (yK d (l216.take k))) :: (Blk b2 (d.cells dd0 dd1).toArray 25) :: Rs) wq) ⟨0, _, rfl, zq ⟨rfl, rfl, rfl, rfl, trivial⟩, Nat.zero_le _, hS31⟩ ?_
  rintro m33 σ34 w32 ⟨k, ρl1, rfl, rfl, hkk, hS35⟩
  refine ze ?_
  refine ze ?_
  refine za (by kernel_rfl) (fun _ => ?_)
  refine st (zb (v := .int .i64 ((k : Nat) : Int)) rfl ?_)
  refine st (zb (v := v15) rfl ?_)
  refine st (zK (n := l216.length) Tryd.underlying47 rfl hrd28.sl ?_)
  refine st (zP (k := .i64) (a := ((k : Nat) : Int)) (b := ((l216.length : Nat) : Int)) rfl rfl ?_)
  refine zg ?_
  cases hc36 : decide (((k : Nat) : Int) < ((l216.length : Nat) : Int))
  ·skip
   have hc36r := hc36
   have hc36 := of_decide_eq_false hc36
   refine zo rfl ?_
   refine yp ?_
   refine yf ?_
   refine ze ?_
   refine za (by kernel_rfl) (fun _ => ?_)
   refine st (zu (f := 21) (vals := []) (cap := []) rfl rfl Tryd.call21 (YV  (RdS.base hKN hB25) hS35) ?_)
   rintro _ w37 ⟨rfl, hS38⟩
   refine st (zd (v := .bool true) rfl ?_)
   refine zg ?_
   refine zv ?_
   refine ya Tryd.results6 (show _ = (.bool true : Value) from rfl) ?_
   have hS39 := hk27 _ _ hS38
   have hS40 : Sep G W Rs w37 := hS39.sel 3 [] (Nat.le_add_left _ _) rfl rfl
   refine ⟨rfl, hS40⟩
  ·skip
   have hc36r := hc36
   have hc36 := of_decide_eq_true hc36
   refine zp rfl ?_
   refine zw ?_
   refine ze ?_
   refine zy ?_
   refine ze ?_
   refine za (by kernel_rfl) (fun _ => ?_)
   refine st (zb (v := .pointer (some ⟨b29, 0, none⟩)) rfl ?_)
   refine st (zb (v := v15) rfl ?_)
   refine st (zb (v := .int .i64 ((k : Nat) : Int)) rfl ?_)
   have hi41 : k < l216.length := (by first | omega | (simp only [lens]; omega))
   refine st (zl (k := 10) (i := k) Tryd.underlying47 Tryd.sizeOf59 rfl hrd28.sl rfl hi41 ?_)
   have hi43 : k < l216.length := (by first | omega | (simp only [lens]; omega))
   obtain ⟨hce42, hde42_0, hoke42⟩ := hrd28.ev hi43
   rw [← zm default hi43] at hce42 hde42_0 hoke42
   have hsm44 : ((l216.getD k default).deps).length * 8 ≤ 140737488355328 := hde42_0.small
   have hcw45 := hS35.cells hce42 (hrd28.foot (ne_of_lt hi43))
   refine st (zn (k := 10) Tryd.isAgg59 Tryd.sizeOf59 rfl rfl hcw45 ?_)
   refine st (zu (f := 28) (vals := [.pointer (some ⟨b29, 0, none⟩), .agg ((l216.getD k default).cells (zj w19 (sb v15) (so v15 + k * 10 + 3))).toArray]) (cap := []) rfl rfl Tryd.call28 (UQ (e := (l216.getD k default)) hde42_0 hoke42 (RdS.base hKN hB25) hS35 (hdo) ((Inv.run hdo _)) ((WO (by omega)))) ?_)
   rintro _ w47 ⟨v46, rfl, hS48⟩
   have hr49 := hS48.row (i := 1) rfl
   have hr49s : _ * 8 ≤ _ := hr49.2
   refine zg ?_
   refine ze ?_
   obtain ⟨X, hX⟩ : ∃ z, z = ((yK d (l216.take k)) ++ [zT d (yK d (l216.take k)) (l216.getD k default)]) := ⟨_, rfl⟩
   rw [← hX] at hS48
   have hXr : X = yK d (l216.take (k + 1)) := hX.trans (YL (by omega)).symm
   have hXl : X.length = k + 1 := by rw [hXr, XR, List.length_take]; omega
   refine Zx ((fun TT pp0 => WF [fun vals wq => Sep G22 w19 (pp0 :: TT) wq, fun vals wq => ∃ (v132 : Value), (vals 11 = (.tuple #[.agg ((yd d (((l216.getD k default).typ), ((l216.getD k default).agg)) X).cells v132).toArray, .bool ((zi d X (((l216.getD k default).typ), ((l216.getD k default).agg))).isSome)] : Value)) ∧ Sep G22 w19 (pp0 :: (RwC v132 (stL d (((l216.getD k default).typ), ((l216.getD k default).agg)) X)) :: TT) wq, fun vals wq => ∃ (b164 : Nat), (vals 15 = (.pointer (some ⟨b164, 0, none⟩) : Value)) ∧ Sep G22 w19 ((Blk b164 #[.int .i64 (0), (.slice none 0 0)] 68) :: pp0 :: TT) wq, fun vals wq => ∃ (v132 : Value) (b164 : Nat), (vals 11 = (.tuple #[.agg ((yd d (((l216.getD k default).typ), ((l216.getD k default).agg)) X).cells v132).toArray, .bool ((zi d X (((l216.getD k default).typ), ((l216.getD k default).agg))).isSome)] : Value)) ∧ (vals 15 = (.pointer (some ⟨b164, 0, none⟩) : Value)) ∧ Sep G22 w19 ((Blk b164 #[.int .i64 (0), (.slice none 0 0)] 68) :: pp0 :: (RwC v132 (stL d (((l216.getD k default).typ), ((l216.getD k default).agg)) X)) :: TT) wq, fun _ _ => True, fun _ _ => True, fun _ _ => True, fun vals wq => ∃ (v132 : Value) (b164 : Nat), (vals 11 = (.tuple #[.agg ((yd d (((l216.getD k default).typ), ((l216.getD k default).agg)) X).cells v132).toArray, .bool ((zi d X (((l216.getD k default).typ), ((l216.getD k default).agg))).isSome)] : Value)) ∧ (vals 15 = (.pointer (some ⟨b164, 0, none⟩) : Value)) ∧ Sep G22 w19 ((Blk b164 ((yd d (((l216.getD k default).typ), ((l216.getD k default).agg)) X).cells v132).toArray 68) :: pp0 :: (RwC v132 (stL d (((l216.getD k default).typ), ((l216.getD k default).agg)) X)) :: TT) wq]) ((RwI v46 ((l216.getD k default).deps)) :: (Blk b2 (d.cells dd0 dd1).toArray 25) :: Rs) (ViewO b29 d X X)) (AF [Vl 0 (.pointer (some ⟨b29, 0, none⟩)), Vl 1 (v15), Vl 2 (.int .i64 ((k : Nat) : Int)), Vl 3 (.pointer (some ⟨sb v15, so v15 + k * 10, none⟩)), Vl 4 (.pointer (some ⟨sb v15, so v15 + k * 10 + 4, none⟩)), Vl 5 (.int .i64 ((l216.getD k default).typ)), Vl 6 (v15), Vl 7 (.int .i64 ((k : Nat) : Int)), Vl 8 (.pointer (some ⟨sb v15, so v15 + k * 10, none⟩)), Vl 9 (.pointer (some ⟨sb v15, so v15 + k * 10 + 5, none⟩)), Vl 10 (.int .i64 ((l216.getD k default).agg)), fun _ => True, fun vals => ∀ (v132 : Value), vals 11 = (.tuple #[.agg ((yd d (((l216.getD k default).typ), ((l216.getD k default).agg)) X).cells v132).toArray, .bool ((zi d X (((l216.getD k default).typ), ((l216.getD k default).agg))).isSome)] : Value) → vals 12 = (.tuple #[.agg ((yd d (((l216.getD k default).typ), ((l216.getD k default).agg)) X).cells v132).toArray, .bool ((zi d X (((l216.getD k default).typ), ((l216.getD k default).agg))).isSome)] : Value), fun vals => ∀ (v132 : Value), vals 11 = (.tuple #[.agg ((yd d (((l216.getD k default).typ), ((l216.getD k default).agg)) X).cells v132).toArray, .bool ((zi d X (((l216.getD k default).typ), ((l216.getD k default).agg))).isSome)] : Value) → vals 13 = (.agg ((yd d (((l216.getD k default).typ), ((l216.getD k default).agg)) X).cells v132).toArray : Value), Vl 14 (.bool ((zi d X (((l216.getD k default).typ), ((l216.getD k default).agg))).isSome)), fun _ => True, fun _ => True, Vl 17 (.bool ((zi d X (((l216.getD k default).typ), ((l216.getD k default).agg))).isSome))]) [[], [], [], [1, 2], [1, 2, 3], [1, 2, 3, 4], [], [], [6, 7], [6, 7, 8], [6, 7, 8, 9], [0, 1, 2, 3, 4, 5, 6, 7, 8, 9, 10], [0, 1, 2, 3, 4, 5, 6, 7, 8, 9, 10, 11], [0, 1, 2, 3, 4, 5, 6, 7, 8, 9, 10, 11, 12], [0, 1, 2, 3, 4, 5, 6, 7, 8, 9, 10, 11, 12], [], [0, 1, 2, 3, 4, 5, 6, 7, 8, 9, 10, 11, 12, 13, 15], [0, 1, 2, 3, 4, 5, 6, 7, 8, 9, 10, 11, 12, 13, 14, 15, 16]] [11, 15, 16] [[0, 2], [0, 2], [0, 2], [0, 2], [0, 2], [0, 2], [0, 2], [0, 2], [0, 2], [0, 2], [0, 2], [0, 2], [1, 3], [1, 3], [1, 3, 7], [0, 1], [3], [7]] (by kernel_rfl) (by kernel_rfl) (by kernel_rfl) rfl (by kernel_rfl) (by kernel_rfl) (by decide) (fun _ h1 h2 h3 h4 _ => hS48.same h1 h2 h3 h4) ?_ (yi ⟨dA, dA, dA, dA, dA, dA, dA, dA, dA, dA, dA, dT, fun vals vals' hv h => fun v132 hq0 => (hv 12 (.inl rfl)).trans (h v132 ((hv 11 (.inr (by decide))).symm.trans hq0)), fun vals vals' hv h => fun v132 hq0 => (hv 13 (.inl rfl)).trans (h v132 ((hv 11 (.inr (by decide))).symm.trans hq0)), dA, dT, dT, dA, trivial⟩) ⟨?_, ?_, ?_, ?_, ?_, ?_, ?_, ?_, ?_, ?_, ?_, ?_, ?_, ?_, ?_, ?_, ?_, ?_, trivial⟩ ?_
   ·intro k vals vals' w hv h
    have e : ∀ j ∈ ([11, 15, 16] : List Nat), vals' j = vals j := hv
    match k, h with
    | 0, h => exact h
    | 1, h => exact (by simpa only [WF, List.getElem?_cons_zero, List.getElem?_cons_succ, e 11 (by decide)] using h)
    | 2, h => exact (by simpa only [WF, List.getElem?_cons_zero, List.getElem?_cons_succ, e 15 (by decide)] using h)
    | 3, h => exact (by simpa only [WF, List.getElem?_cons_zero, List.getElem?_cons_succ, e 11 (by decide), e 15 (by decide)] using h)
    | 4, h => exact h
    | 5, h => exact h
    | 6, h => exact h
    | 7, h => exact (by simpa only [WF, List.getElem?_cons_zero, List.getElem?_cons_succ, e 11 (by decide), e 15 (by decide)] using h)
    | _ + 8, _ => trivial
   ·intro k190 vals w191 hk194 hW193 hA192
    refine obl rfl ?_
    exact zb (v := .pointer (some ⟨b29, 0, none⟩)) rfl (fun vals' hv _ => ⟨rfl, hv⟩)
   ·intro k195 vals w196 hk199 hW198 hA197
    refine obl rfl ?_
    exact zb (v := v15) rfl (fun vals' hv _ => ⟨rfl, hv⟩)
   ·intro k200 vals w201 hk204 hW203 hA202
    refine obl rfl ?_
    exact zb (v := .int .i64 ((k : Nat) : Int)) rfl (fun vals' hv _ => ⟨rfl, hv⟩)
   ·intro k205 vals w206 hk209 hW208 hA207
    have hk2092 : k205 ∈ [0, 2] := hk209
    simp only [List.mem_cons, List.not_mem_nil, or_false] at hk2092
    rcases hk2092 with rfl | rfl
    ·skip
     have hS210 : Sep _ _ _ _ := hW208
     have e211 := hA207 1 (by decide)
     have e212 := hA207 2 (by decide)
     refine obl rfl ?_
     have hi213 : k < l216.length := (by first | omega | (simp only [lens]; omega))
     exact zl (k := 10) (i := k) Tryd.underlying47 Tryd.sizeOf59 e211 hrd28.sl e212 hi213 (fun vals' hv _ => ⟨rfl, hv⟩)
    ·skip
     obtain ⟨b164, he167, hS214⟩ := hW208
     have e215 := hA207 1 (by decide)
     have e216 := hA207 2 (by decide)
     refine obl rfl ?_
     have hi217 : k < l216.length := (by first | omega | (simp only [lens]; omega))
     exact zl (k := 10) (i := k) Tryd.underlying47 Tryd.sizeOf59 e215 hrd28.sl e216 hi217 (fun vals' hv _ => ⟨rfl, hv⟩)
   ·intro k218 vals w219 hk222 hW221 hA220
    have e223 := hA220 3 (by decide)
    refine obl rfl ?_
    exact xB e223 (fun vals' hv _ => ⟨rfl, hv⟩)
   ·intro k224 vals w225 hk228 hW227 hA226
    have hk2282 : k224 ∈ [0, 2] := hk228
    simp only [List.mem_cons, List.not_mem_nil, or_false] at hk2282
    rcases hk2282 with rfl | rfl
    ·skip
     have hS229 : Sep _ _ _ _ := hW227
     have e230 := hA226 4 (by decide)
     refine obl rfl ?_
     have hcw232 := hS229.cells hce42 (hrd28.foot (ne_of_lt hi43))
     exact zf (v := .int .i64 ((l216.getD k default).typ)) Tryd.isAgg3 e230 (hcw232.get (j := 4) rfl) (fun vals' hv _ => ⟨rfl, hv⟩)
    ·skip
     obtain ⟨b164, he167, hS233⟩ := hW227
     have e234 := hA226 4 (by decide)
     refine obl rfl ?_
     have hcw236 := hS233.cells hce42 (hrd28.foot (ne_of_lt hi43))
     exact zf (v := .int .i64 ((l216.getD k default).typ)) Tryd.isAgg3 e234 (hcw236.get (j := 4) rfl) (fun vals' hv _ => ⟨rfl, hv⟩)
   ·intro k237 vals w238 hk241 hW240 hA239
    refine obl rfl ?_
    exact zb (v := v15) rfl (fun vals' hv _ => ⟨rfl, hv⟩)
   ·intro k242 vals w243 hk246 hW245 hA244
    refine obl rfl ?_
    exact zb (v := .int .i64 ((k : Nat) : Int)) rfl (fun vals' hv _ => ⟨rfl, hv⟩)
   ·intro k247 vals w248 hk251 hW250 hA249
    have hk2512 : k247 ∈ [0, 2] := hk251
    simp only [List.mem_cons, List.not_mem_nil, or_false] at hk2512
    rcases hk2512 with rfl | rfl
    ·skip
     have hS252 : Sep _ _ _ _ := hW250
     have e253 := hA249 6 (by decide)
     have e254 := hA249 7 (by decide)
     refine obl rfl ?_
     have hi255 : k < l216.length := (by first | omega | (simp only [lens]; omega))
     exact zl (k := 10) (i := k) Tryd.underlying47 Tryd.sizeOf59 e253 hrd28.sl e254 hi255 (fun vals' hv _ => ⟨rfl, hv⟩)
    ·skip
     obtain ⟨b164, he167, hS256⟩ := hW250
     have e257 := hA249 6 (by decide)
     have e258 := hA249 7 (by decide)
     refine obl rfl ?_
     have hi259 : k < l216.length := (by first | omega | (simp only [lens]; omega))
     exact zl (k := 10) (i := k) Tryd.underlying47 Tryd.sizeOf59 e257 hrd28.sl e258 hi259 (fun vals' hv _ => ⟨rfl, hv⟩)
   ·intro k260 vals w261 hk264 hW263 hA262
    have e265 := hA262 8 (by decide)
    refine obl rfl ?_
    exact Yy e265 (fun vals' hv _ => ⟨rfl, hv⟩)
   ·intro k266 vals w267 hk270 hW269 hA268
    have hk2702 : k266 ∈ [0, 2] := hk270
    simp only [List.mem_cons, List.not_mem_nil, or_false] at hk2702
    rcases hk2702 with rfl | rfl
    ·skip
     have hS271 : Sep _ _ _ _ := hW269
     have e272 := hA268 9 (by decide)
     refine obl rfl ?_
     have hcw274 := hS271.cells hce42 (hrd28.foot (ne_of_lt hi43))
     exact zf (v := .int .i64 ((l216.getD k default).agg)) Tryd.isAgg3 e272 (hcw274.get (j := 5) rfl) (fun vals' hv _ => ⟨rfl, hv⟩)
    ·skip
     obtain ⟨b164, he167, hS275⟩ := hW269
     have e276 := hA268 9 (by decide)
     refine obl rfl ?_
     have hcw278 := hS275.cells hce42 (hrd28.foot (ne_of_lt hi43))
     exact zf (v := .int .i64 ((l216.getD k default).agg)) Tryd.isAgg3 e276 (hcw278.get (j := 5) rfl) (fun vals' hv _ => ⟨rfl, hv⟩)
   ·intro k279 vals w280 hk283 hW282 hA281
    have hk2832 : k279 ∈ [0, 2] := hk283
    simp only [List.mem_cons, List.not_mem_nil, or_false] at hk2832
    rcases hk2832 with rfl | rfl
    ·skip
     have hS284 : Sep _ _ _ _ := hW282
     refine obl rfl ?_
     have e285 := hA281 0 (by decide)
     have e286 := hA281 5 (by decide)
     have e287 := hA281 10 (by decide)
     refine (zu (f := 32) (vals := [.pointer (some ⟨b29, 0, none⟩), .int .i64 ((l216.getD k default).typ), .int .i64 ((l216.getD k default).agg)]) (cap := []) rfl (yX ⟨e285, e286, e287, trivial⟩) Tryd.call32 (ZX (ty := (l216.getD k default).typ) (no := (l216.getD k default).agg) hoke42.typ hoke42.agg hS284) ?_)
     rintro _ w289 ⟨v132, rfl, hS290⟩
     have hr291 := hS290.row (i := 1) rfl
     have hr291s : _ * 32 ≤ _ := hr291.2
     intro vals' hv hv'
     refine ⟨?_, trivial⟩
     show ∃ (v132 : Value), (vals' 11 = (.tuple #[.agg ((yd d (((l216.getD k default).typ), ((l216.getD k default).agg)) X).cells v132).toArray, .bool ((zi d X (((l216.getD k default).typ), ((l216.getD k default).agg))).isSome)] : Value)) ∧ Sep G22 w19 ((ViewO b29 d X X) :: (RwC v132 (stL d (((l216.getD k default).typ), ((l216.getD k default).agg)) X)) :: (RwI v46 ((l216.getD k default).deps)) :: (Blk b2 (d.cells dd0 dd1).toArray 25) :: Rs) w289
     exact ⟨v132, hv, hS290⟩
    ·skip
     obtain ⟨b164, he167, hS292⟩ := hW282
     refine obl rfl ?_
     have e293 := hA281 0 (by decide)
     have e294 := hA281 5 (by decide)
     have e295 := hA281 10 (by decide)
     have hS296 := hS292.mv1
     refine (zu (f := 32) (vals := [.pointer (some ⟨b29, 0, none⟩), .int .i64 ((l216.getD k default).typ), .int .i64 ((l216.getD k default).agg)]) (cap := []) rfl (yX ⟨e293, e294, e295, trivial⟩) Tryd.call32 (ZX (ty := (l216.getD k default).typ) (no := (l216.getD k default).agg) hoke42.typ hoke42.agg hS296) ?_)
     rintro _ w298 ⟨v132, rfl, hS299⟩
     have hr300 := hS299.row (i := 1) rfl
     have hr300s : _ * 32 ≤ _ := hr300.2
     have hS301 := hS299.mv2
     intro vals' hv hv'
     refine ⟨?_, trivial⟩
     show ∃ (v132 : Value) (b164 : Nat), (vals' 11 = (.tuple #[.agg ((yd d (((l216.getD k default).typ), ((l216.getD k default).agg)) X).cells v132).toArray, .bool ((zi d X (((l216.getD k default).typ), ((l216.getD k default).agg))).isSome)] : Value)) ∧ (vals' 15 = (.pointer (some ⟨b164, 0, none⟩) : Value)) ∧ Sep G22 w19 ((Blk b164 #[.int .i64 (0), (.slice none 0 0)] 68) :: (ViewO b29 d X X) :: (RwC v132 (stL d (((l216.getD k default).typ), ((l216.getD k default).agg)) X)) :: (RwI v46 ((l216.getD k default).deps)) :: (Blk b2 (d.cells dd0 dd1).toArray 25) :: Rs) w298
     exact ⟨v132, b164, hv, (by rw [hv' 15 (by decide)]; exact he167), hS301⟩
   ·intro k302 vals w303 hk306 hW305 hA304
    have hk3062 : k302 ∈ [1, 3] := hk306
    simp only [List.mem_cons, List.not_mem_nil, or_false] at hk3062
    rcases hk3062 with rfl | rfl
    ·skip
     obtain ⟨v132, he136, hS307⟩ := hW305
     refine obl rfl ?_
     refine zb (v := .tuple #[.agg ((yd d (((l216.getD k default).typ), ((l216.getD k default).agg)) X).cells v132).toArray, .bool ((zi d X (((l216.getD k default).typ), ((l216.getD k default).agg))).isSome)]) he136 (fun vals' hv hv' => ⟨rfl, ?_⟩)
     intro v132q hq0
     rw [hv' 11 (by decide)] at hq0; cases he136.symm.trans hq0
     exact hv
    ·skip
     obtain ⟨v132, b164, he136, he167, hS308⟩ := hW305
     refine obl rfl ?_
     refine zb (v := .tuple #[.agg ((yd d (((l216.getD k default).typ), ((l216.getD k default).agg)) X).cells v132).toArray, .bool ((zi d X (((l216.getD k default).typ), ((l216.getD k default).agg))).isSome)]) he136 (fun vals' hv hv' => ⟨rfl, ?_⟩)
     intro v132q hq0
     rw [hv' 11 (by decide)] at hq0; cases he136.symm.trans hq0
     exact hv
   ·intro k309 vals w310 hk313 hW312 hA311
    have hk3132 : k309 ∈ [1, 3] := hk313
    simp only [List.mem_cons, List.not_mem_nil, or_false] at hk3132
    rcases hk3132 with rfl | rfl
    ·skip
     obtain ⟨v132, he136, hS314⟩ := hW312
     have e315 : vals 12 = (.tuple #[.agg ((yd d (((l216.getD k default).typ), ((l216.getD k default).agg)) X).cells v132).toArray, .bool ((zi d X (((l216.getD k default).typ), ((l216.getD k default).agg))).isSome)] : Value) := hA311 12 (by decide) v132 he136
     refine obl rfl ?_
     refine zz (vs := [.agg ((yd d (((l216.getD k default).typ), ((l216.getD k default).agg)) X).cells v132).toArray, .bool ((zi d X (((l216.getD k default).typ), ((l216.getD k default).agg))).isSome)]) (i := 0) (v := .agg ((yd d (((l216.getD k default).typ), ((l216.getD k default).agg)) X).cells v132).toArray) e315 rfl (fun vals' hv hv' => ⟨rfl, ?_⟩)
     intro v132q hq0
     rw [hv' 11 (by decide)] at hq0; cases he136.symm.trans hq0
     exact hv
    ·skip
     obtain ⟨v132, b164, he136, he167, hS316⟩ := hW312
     have e317 : vals 12 = (.tuple #[.agg ((yd d (((l216.getD k default).typ), ((l216.getD k default).agg)) X).cells v132).toArray, .bool ((zi d X (((l216.getD k default).typ), ((l216.getD k default).agg))).isSome)] : Value) := hA311 12 (by decide) v132 he136
     refine obl rfl ?_
     refine zz (vs := [.agg ((yd d (((l216.getD k default).typ), ((l216.getD k default).agg)) X).cells v132).toArray, .bool ((zi d X (((l216.getD k default).typ), ((l216.getD k default).agg))).isSome)]) (i := 0) (v := .agg ((yd d (((l216.getD k default).typ), ((l216.getD k default).agg)) X).cells v132).toArray) e317 rfl (fun vals' hv hv' => ⟨rfl, ?_⟩)
     intro v132q hq0
     rw [hv' 11 (by decide)] at hq0; cases he136.symm.trans hq0
     exact hv
   ·intro k318 vals w319 hk322 hW321 hA320
    have hk3222 : k318 ∈ [1, 3, 7] := hk322
    simp only [List.mem_cons, List.not_mem_nil, or_false] at hk3222
    rcases hk3222 with rfl | rfl | rfl
    ·skip
     obtain ⟨v132, he136, hS323⟩ := hW321
     have e324 : vals 12 = (.tuple #[.agg ((yd d (((l216.getD k default).typ), ((l216.getD k default).agg)) X).cells v132).toArray, .bool ((zi d X (((l216.getD k default).typ), ((l216.getD k default).agg))).isSome)] : Value) := hA320 12 (by decide) v132 he136
     refine obl rfl ?_
     exact zz (vs := [.agg ((yd d (((l216.getD k default).typ), ((l216.getD k default).agg)) X).cells v132).toArray, .bool ((zi d X (((l216.getD k default).typ), ((l216.getD k default).agg))).isSome)]) (i := 1) (v := .bool ((zi d X (((l216.getD k default).typ), ((l216.getD k default).agg))).isSome)) e324 rfl (fun vals' hv _ => ⟨rfl, hv⟩)
    ·skip
     obtain ⟨v132, b164, he136, he167, hS325⟩ := hW321
     have e326 : vals 12 = (.tuple #[.agg ((yd d (((l216.getD k default).typ), ((l216.getD k default).agg)) X).cells v132).toArray, .bool ((zi d X (((l216.getD k default).typ), ((l216.getD k default).agg))).isSome)] : Value) := hA320 12 (by decide) v132 he136
     refine obl rfl ?_
     exact zz (vs := [.agg ((yd d (((l216.getD k default).typ), ((l216.getD k default).agg)) X).cells v132).toArray, .bool ((zi d X (((l216.getD k default).typ), ((l216.getD k default).agg))).isSome)]) (i := 1) (v := .bool ((zi d X (((l216.getD k default).typ), ((l216.getD k default).agg))).isSome)) e326 rfl (fun vals' hv _ => ⟨rfl, hv⟩)
    ·skip
     obtain ⟨v132, b164, he136, he167, hS327⟩ := hW321
     have e328 : vals 12 = (.tuple #[.agg ((yd d (((l216.getD k default).typ), ((l216.getD k default).agg)) X).cells v132).toArray, .bool ((zi d X (((l216.getD k default).typ), ((l216.getD k default).agg))).isSome)] : Value) := hA320 12 (by decide) v132 he136
     refine obl rfl ?_
     exact zz (vs := [.agg ((yd d (((l216.getD k default).typ), ((l216.getD k default).agg)) X).cells v132).toArray, .bool ((zi d X (((l216.getD k default).typ), ((l216.getD k default).agg))).isSome)]) (i := 1) (v := .bool ((zi d X (((l216.getD k default).typ), ((l216.getD k default).agg))).isSome)) e328 rfl (fun vals' hv _ => ⟨rfl, hv⟩)
   ·intro k329 vals w330 hk333 hW332 hA331
    have hk3332 : k329 ∈ [0, 1] := hk333
    simp only [List.mem_cons, List.not_mem_nil, or_false] at hk3332
    rcases hk3332 with rfl | rfl
    ·skip
     have hS334 : Sep _ _ _ _ := hW332
     refine obl rfl ?_
     refine (zG Tryd.zeroValue68 ?_)
     intro w337 b164 hn335
     have hS338 := hS334.new hn335
     intro vals' hv hv'
     refine ⟨?_, trivial⟩
     show ∃ (b164 : Nat), (vals' 15 = (.pointer (some ⟨b164, 0, none⟩) : Value)) ∧ Sep G22 w19 ((Blk b164 #[.int .i64 (0), (.slice none 0 0)] 68) :: (ViewO b29 d X X) :: (RwI v46 ((l216.getD k default).deps)) :: (Blk b2 (d.cells dd0 dd1).toArray 25) :: Rs) w337
     exact ⟨b164, hv, hS338⟩
    ·skip
     obtain ⟨v132, he136, hS339⟩ := hW332
     refine obl rfl ?_
     refine (zG Tryd.zeroValue68 ?_)
     intro w342 b164 hn340
     have hS343 := hS339.new hn340
     intro vals' hv hv'
     refine ⟨?_, trivial⟩
     show ∃ (v132 : Value) (b164 : Nat), (vals' 11 = (.tuple #[.agg ((yd d (((l216.getD k default).typ), ((l216.getD k default).agg)) X).cells v132).toArray, .bool ((zi d X (((l216.getD k default).typ), ((l216.getD k default).agg))).isSome)] : Value)) ∧ (vals' 15 = (.pointer (some ⟨b164, 0, none⟩) : Value)) ∧ Sep G22 w19 ((Blk b164 #[.int .i64 (0), (.slice none 0 0)] 68) :: (ViewO b29 d X X) :: (RwC v132 (stL d (((l216.getD k default).typ), ((l216.getD k default).agg)) X)) :: (RwI v46 ((l216.getD k default).deps)) :: (Blk b2 (d.cells dd0 dd1).toArray 25) :: Rs) w342
     exact ⟨v132, b164, (by rw [hv' 11 (by decide)]; exact he136), hv, hS343⟩
   ·intro k344 vals w345 hk348 hW347 hA346
    have hk3482 : k344 ∈ [3] := hk348
    simp only [List.mem_cons, List.not_mem_nil, or_false] at hk3482
    subst hk3482
    obtain ⟨v132, b164, he136, he167, hS349⟩ := hW347
    refine obl rfl ?_
    have e350 : vals 13 = (.agg ((yd d (((l216.getD k default).typ), ((l216.getD k default).agg)) X).cells v132).toArray : Value) := hA346 13 (by decide) v132 he136
    have hr353 := hS349.row (i := 2) rfl
    have hr353s : _ * 32 ≤ _ := hr353.2
    refine (zA (v := .agg ((yd d (((l216.getD k default).typ), ((l216.getD k default).agg)) X).cells v132).toArray) (c' := ((yd d (((l216.getD k default).typ), ((l216.getD k default).agg)) X).cells v132).toArray) Tryd.sizeOf68 he167 e350 (hS349.blk (i := 0) rfl) (yo ⟨rfl, hr353.1.one, trivial⟩) (Nat.le_of_ble_eq_true rfl) rfl ?_)
    intro w351 hp352
    have hS354 := hS349.pt0 hp352
    intro vals' hv hv'
    refine ⟨?_, trivial⟩
    show ∃ (v132 : Value) (b164 : Nat), (vals' 11 = (.tuple #[.agg ((yd d (((l216.getD k default).typ), ((l216.getD k default).agg)) X).cells v132).toArray, .bool ((zi d X (((l216.getD k default).typ), ((l216.getD k default).agg))).isSome)] : Value)) ∧ (vals' 15 = (.pointer (some ⟨b164, 0, none⟩) : Value)) ∧ Sep G22 w19 ((Blk b164 ((yd d (((l216.getD k default).typ), ((l216.getD k default).agg)) X).cells v132).toArray 68) :: (ViewO b29 d X X) :: (RwC v132 (stL d (((l216.getD k default).typ), ((l216.getD k default).agg)) X)) :: (RwI v46 ((l216.getD k default).deps)) :: (Blk b2 (d.cells dd0 dd1).toArray 25) :: Rs) w351
    exact ⟨v132, b164, (by rw [hv' 11 (by decide)]; exact he136), (by rw [hv' 15 (by decide)]; exact he167), hS354⟩
   ·intro k355 vals w356 hk359 hW358 hA357
    have e360 := hA357 14 (by decide)
    refine obl rfl ?_
    exact zd (v := .bool ((zi d X (((l216.getD k default).typ), ((l216.getD k default).agg))).isSome)) e360 (fun vals' hv _ => ⟨rfl, hv⟩)
   intro vals w361 hW362 hA363
   obtain ⟨v132, b164, he136, he167, hS364⟩ := hW362
   have e365 := hA363 17 (by decide)
   refine yh (kv := [(2, v15), (3, .pointer (some ⟨b2, 0, none⟩)), (7, .pointer (some ⟨b29, 0, none⟩)), (8, .int .i64 ((k : Nat) : Int)), (31, .int .i64 ((k : Nat) : Int)), (32, v15), (33, .int .i64 ((l216.length : Nat) : Int)), (34, .bool true), (37, .pointer (some ⟨b29, 0, none⟩)), (38, v15), (39, .int .i64 ((k : Nat) : Int)), (40, .pointer (some ⟨sb v15, so v15 + k * 10, none⟩)), (41, .agg ((l216.getD k default).cells (zj w19 (sb v15) (so v15 + k * 10 + 3))).toArray), (42, .agg ((zT d (yK d (l216.take k)) (l216.getD k default)).cells v46).toArray), (9, .pointer (some ⟨b164, 0, none⟩)), (10, .bool ((zi d X (((l216.getD k default).typ), ((l216.getD k default).agg))).isSome))]) ⟨rfl, rfl, rfl, rfl, rfl, rfl, rfl, rfl, rfl, rfl, rfl, rfl, rfl, rfl, (by exact he167), (by exact e365), trivial⟩ (fun ρw361 => ?_)
   refine zg ?_
   refine ze ?_
   refine za (by kernel_rfl) (fun _ => ?_)
   refine st (zd (v := .int .i64 (0)) rfl ?_)
   refine zg ?_
   refine ze ?_
   refine za (by kernel_rfl) (fun _ => ?_)
   refine st (zb (v := .pointer (some ⟨b29, 0, none⟩)) rfl ?_)
   have hS366 := hS364.mv1
   refine st (zu (f := 36) (vals := [.pointer (some ⟨b29, 0, none⟩)]) (cap := []) rfl rfl Tryd.call36 (ZF  hS366) ?_)
   rintro v367 w368 ⟨_, rfl, hS369⟩
   have hr370 := hS369.row (i := 1) rfl
   have hr370s : _ * 120 ≤ _ := hr370.2
   refine st (zd (v := v367) rfl ?_)
   refine zg ?_
   refine ze ?_
   refine ze ?_
   have hS371 := hS369.mv1
   obtain ⟨G372, hA374, hB375, hS376, hk377⟩ := hS371.lend
   have hrd378 := RowE.rd hA374
   have hrd378s : _ * 120 ≤ _ := hrd378.small
   refine za (by kernel_rfl) (fun _ => ?_)
   refine st (zd (v := .int .i64 (0)) rfl ?_)
   refine zg ?_
   refine zy ?_
   refine yr (fun mq σ wq => ∃ (j : Nat) (cn : Nat) (ρ : Env), mq = X.length - j ∧ σ = yt ρ [(2, v15), (3, .pointer (some ⟨b2, 0, none⟩)), (7, .pointer (some ⟨b29, 0, none⟩)), (8, .int .i64 ((k : Nat) : Int)), (9, .pointer (some ⟨b164, 0, none⟩)), (10, .bool ((zi d X (((l216.getD k default).typ), ((l216.getD k default).agg))).isSome)), (12, v367), (13, .int .i64 ((j : Nat) : Int)), (11, .int .i64 ((cn : Nat) : Int))] ∧ (j ≤ X.length) ∧ (cn = zO ((l216.getD k default).typ, (l216.getD k default).agg) (X.take j)) ∧ (cn ≤ j) ∧ Sep G372 w368 ((ViewO b29 d X X) :: (Blk b164 ((yd d (((l216.getD k default).typ), ((l216.getD k default).agg)) X).cells v132).toArray 68) :: (RwC v132 (stL d (((l216.getD k default).typ), ((l216.getD k default).agg)) X)) :: (RwI v46 ((l216.getD k default).deps)) :: (Blk b2 (d.cells dd0 dd1).toArray 25) :: Rs) wq) ⟨0, 0, _, rfl, zq ⟨rfl, rfl, rfl, rfl, rfl, rfl, rfl, rfl, rfl, trivial⟩, Nat.zero_le _, rfl, Nat.le_refl _, hS376⟩ ?_
   rintro m380 σ381 w379 ⟨j, cn, ρl2, rfl, rfl, hkj, hcn, hcl, hS382⟩
   refine ze ?_
   refine ze ?_
   refine za (by kernel_rfl) (fun _ => ?_)
   refine st (zb (v := .int .i64 ((j : Nat) : Int)) rfl ?_)
   refine st (zb (v := v367) rfl ?_)
   refine st (zK (n := X.length) Tryd.underlying66 rfl hrd378.sl ?_)
   refine st (zP (k := .i64) (a := ((j : Nat) : Int)) (b := ((X.length : Nat) : Int)) rfl rfl ?_)
   refine zg ?_
   cases hc383 : decide (((j : Nat) : Int) < ((X.length : Nat) : Int))
   ·skip
    have hc383r := hc383
    have hc383 := of_decide_eq_false hc383
    refine zo rfl ?_
    refine yp ?_
    refine yf ?_
    refine ze ?_
    refine ze ?_
    refine zE (by kernel_rfl) ?_
    refine st (zb (v := .bool ((zi d X (((l216.getD k default).typ), ((l216.getD k default).agg))).isSome)) rfl ?_)
    refine st (zb (v := .int .i64 ((cn : Nat) : Int)) rfl ?_)
    refine st (yG (k := .i64) (a := ((cn : Nat) : Int)) (b := 0) rfl rfl ?_)
    refine st (UB (a := (zi d X (((l216.getD k default).typ), ((l216.getD k default).agg))).isSome) (b := decide (0 < ((cn : Nat) : Int))) Tryd.underlying4 rfl rfl ?_)
    refine st (zb (v := .bool (!(((zi d X (((l216.getD k default).typ), ((l216.getD k default).agg))).isSome) == (decide (0 < ((cn : Nat) : Int)))))) rfl ?_)
    refine stc (V := .pointer (some ⟨b164, 0, none⟩)) rfl rfl (fun hb384 => ?_) ?_
    ·have hl385 := hb384
     try simp only [zk] at hl385
     exact Wx rfl ⟨rfl, rfl⟩
    refine stc (V := .int .i64 ((yd d (((l216.getD k default).typ), ((l216.getD k default).agg)) X).ver)) rfl rfl (fun hb386 => ?_) ?_
    ·have hl387 := hb386
     try simp only [zk] at hl387
     exact zf (v := .int .i64 ((yd d (((l216.getD k default).typ), ((l216.getD k default).agg)) X).ver)) Tryd.isAgg3 (show _ = (.pointer (some ⟨b164, 0, none⟩) : Value) from (if_pos hb386)) (zh (hS382.blk (i := 1) rfl) rfl) ⟨rfl, rfl⟩
    refine stc (V := .int .i64 ((cn : Nat) : Int)) rfl rfl (fun hb388 => ?_) ?_
    ·have hl389 := hb388
     try simp only [zk] at hl389
     exact zb (v := .int .i64 ((cn : Nat) : Int)) rfl ⟨rfl, rfl⟩
    refine stc (V := .bool (!decide (((yd d (((l216.getD k default).typ), ((l216.getD k default).agg)) X).ver) = ((cn : Nat) : Int)))) rfl rfl (fun hb390 => ?_) ?_
    ·have hl391 := hb390
     try simp only [zk] at hl391
     exact yz (k := .i64) (a := (yd d (((l216.getD k default).typ), ((l216.getD k default).agg)) X).ver) (b := ((cn : Nat) : Int)) (show _ = (.int .i64 ((yd d (((l216.getD k default).typ), ((l216.getD k default).agg)) X).ver) : Value) from (if_pos hb390)) (show _ = (.int .i64 ((cn : Nat) : Int) : Value) from (if_pos hb390)) ⟨rfl, rfl⟩
    refine st (zx (b := !(((zi d X (((l216.getD k default).typ), ((l216.getD k default).agg))).isSome) == (decide (0 < ((cn : Nat) : Int))))) (b' := !decide (((yd d (((l216.getD k default).typ), ((l216.getD k default).agg)) X).ver) = ((cn : Nat) : Int))) rfl (fun hbp => (show _ = (.bool (!decide (((yd d (((l216.getD k default).typ), ((l216.getD k default).agg)) X).ver) = ((cn : Nat) : Int))) : Value) from (if_pos hbp))) ?_)
    refine st (zb (v := .bool ((!(((zi d X (((l216.getD k default).typ), ((l216.getD k default).agg))).isSome) == (decide (0 < ((cn : Nat) : Int))))) || (!decide (((yd d (((l216.getD k default).typ), ((l216.getD k default).agg)) X).ver) = ((cn : Nat) : Int))))) rfl ?_)
    refine stc (V := .bool ((zi d X (((l216.getD k default).typ), ((l216.getD k default).agg))).isSome)) rfl rfl (fun hb392 => ?_) ?_
    ·have hl393 := hb392
     try simp only [zk] at hl393
     exact zb (v := .bool ((zi d X (((l216.getD k default).typ), ((l216.getD k default).agg))).isSome)) rfl ⟨rfl, rfl⟩
    refine stc (V := .bool (!((zi d X (((l216.getD k default).typ), ((l216.getD k default).agg))).isSome))) rfl rfl (fun hb394 => ?_) ?_
    ·have hl395 := hb394
     try simp only [zk] at hl395
     exact yB (a := (zi d X (((l216.getD k default).typ), ((l216.getD k default).agg))).isSome) (show _ = (.bool ((zi d X (((l216.getD k default).typ), ((l216.getD k default).agg))).isSome) : Value) from (if_pos hb394)) ⟨rfl, rfl⟩
    refine stc (V := .bool (!((zi d X (((l216.getD k default).typ), ((l216.getD k default).agg))).isSome))) rfl rfl (fun hb396 => ?_) ?_
    ·have hl397 := hb396
     try simp only [zk] at hl397
     exact zb (v := .bool (!((zi d X (((l216.getD k default).typ), ((l216.getD k default).agg))).isSome))) (show _ = (.bool (!((zi d X (((l216.getD k default).typ), ((l216.getD k default).agg))).isSome)) : Value) from (if_pos hb396)) ⟨rfl, rfl⟩
    refine yy (V := .pointer (some ⟨b164, 1, none⟩)) rfl rfl (fun hb398 => ?_) ?_
    ·have hl399 := hb398.1
     try simp only [zk] at hl399
     have hl400 := hb398.2
     try simp only [zk] at hl400
     exact yO rfl ⟨rfl, rfl⟩
    refine yy (V := v132) rfl rfl (fun hb401 => ?_) ?_
    ·have hl402 := hb401.1
     try simp only [zk] at hl402
     have hl403 := hb401.2
     try simp only [zk] at hl403
     exact zf (v := v132) Tryd.isAgg26 (show _ = (.pointer (some ⟨b164, 1, none⟩) : Value) from (if_pos ⟨hb401.1, hb401.2⟩)) (zh (hS382.blk (i := 1) rfl) rfl) ⟨rfl, rfl⟩
    refine yy (V := .int .i64 (((stL d (((l216.getD k default).typ), ((l216.getD k default).agg)) X).length : Nat) : Int)) rfl rfl (fun hb404 => ?_) ?_
    ·have hl405 := hb404.1
     try simp only [zk] at hl405
     have hl406 := hb404.2
     try simp only [zk] at hl406
     have hr407 := hS382.row (i := 2) rfl
     have hr407s : _ * 32 ≤ _ := hr407.2
     exact zK (n := (stL d (((l216.getD k default).typ), ((l216.getD k default).agg)) X).length) Tryd.underlying26 (show _ = (v132 : Value) from (if_pos ⟨hb404.1, hb404.2⟩)) hr407.1 ⟨rfl, rfl⟩
    refine yy (V := .bool (decide (0 < (((stL d (((l216.getD k default).typ), ((l216.getD k default).agg)) X).length : Nat) : Int)))) rfl rfl (fun hb408 => ?_) ?_
    ·have hl409 := hb408.1
     try simp only [zk] at hl409
     have hl410 := hb408.2
     try simp only [zk] at hl410
     exact yG (k := .i64) (a := (((stL d (((l216.getD k default).typ), ((l216.getD k default).agg)) X).length : Nat) : Int)) (b := 0) (show _ = (.int .i64 (((stL d (((l216.getD k default).typ), ((l216.getD k default).agg)) X).length : Nat) : Int) : Value) from (if_pos ⟨hb408.1, hb408.2⟩)) rfl ⟨rfl, rfl⟩
    refine stc (V := .bool ((!((zi d X (((l216.getD k default).typ), ((l216.getD k default).agg))).isSome)) && (decide (0 < (((stL d (((l216.getD k default).typ), ((l216.getD k default).agg)) X).length : Nat) : Int))))) rfl rfl (fun hb411 => ?_) ?_
    ·have hl412 := hb411
     try simp only [zk] at hl412
     exact zF (b := !((zi d X (((l216.getD k default).typ), ((l216.getD k default).agg))).isSome)) (b' := decide (0 < (((stL d (((l216.getD k default).typ), ((l216.getD k default).agg)) X).length : Nat) : Int))) (show _ = (.bool (!((zi d X (((l216.getD k default).typ), ((l216.getD k default).agg))).isSome)) : Value) from (if_pos hb411)) (fun hbp => (show _ = (.bool (decide (0 < (((stL d (((l216.getD k default).typ), ((l216.getD k default).agg)) X).length : Nat) : Int))) : Value) from (if_pos ⟨hb411, hbp⟩))) ⟨rfl, rfl⟩
    refine st (zx (b := (!(((zi d X (((l216.getD k default).typ), ((l216.getD k default).agg))).isSome) == (decide (0 < ((cn : Nat) : Int))))) || (!decide (((yd d (((l216.getD k default).typ), ((l216.getD k default).agg)) X).ver) = ((cn : Nat) : Int)))) (b' := (!((zi d X (((l216.getD k default).typ), ((l216.getD k default).agg))).isSome)) && (decide (0 < (((stL d (((l216.getD k default).typ), ((l216.getD k default).agg)) X).length : Nat) : Int)))) rfl (fun hbp => (show _ = (.bool ((!((zi d X (((l216.getD k default).typ), ((l216.getD k default).agg))).isSome)) && (decide (0 < (((stL d (((l216.getD k default).typ), ((l216.getD k default).agg)) X).length : Nat) : Int)))) : Value) from (if_pos hbp))) ?_)
    have hkn413 : (((!(((zi d X (((l216.getD k default).typ), ((l216.getD k default).agg))).isSome) == (decide (0 < ((cn : Nat) : Int))))) || (!decide (((yd d (((l216.getD k default).typ), ((l216.getD k default).agg)) X).ver) = ((cn : Nat) : Int)))) || ((!((zi d X (((l216.getD k default).typ), ((l216.getD k default).agg))).isSome)) && (decide (0 < (((stL d (((l216.getD k default).typ), ((l216.getD k default).agg)) X).length : Nat) : Int))))) = false := (QA (hcn.trans (by rw [List.take_of_length_le (by omega)])))
    rw [hkn413]
    refine zg ?_
    refine zo rfl ?_
    refine zw ?_
    refine ze ?_
    refine ze ?_
    refine za (by kernel_rfl) (fun _ => ?_)
    refine st (zb (v := .bool ((zi d X (((l216.getD k default).typ), ((l216.getD k default).agg))).isSome)) rfl ?_)
    refine st (yB (a := (zi d X (((l216.getD k default).typ), ((l216.getD k default).agg))).isSome) rfl ?_)
    refine zg ?_
    cases hc414 : !((zi d X (((l216.getD k default).typ), ((l216.getD k default).agg))).isSome)
    ·skip
     have hc414r := hc414
     try simp only [zk] at hc414
     have hr415 := hS382.row (i := 2) rfl
     have hr415s : _ * 32 ≤ _ := hr415.2
     have hv9 := Uy hc414r
     have hty := Uu (l216.take (k + 1)) (by rw [← hXr]; exact hv9)
     have hCe : stL d ((l216.getD k default).typ, (l216.getD k default).agg) X = yv d ((l216.getD k default).typ, (l216.getD k default).agg) X := if_neg hv9
     have hRt : Right (Zq d (l216.getD k default).typ) (stL d ((l216.getD k default).typ, (l216.getD k default).agg) X) := by rw [hCe, hXr]; exact Inv.run hdo _ _ _ hty.1 hty.2
     have hLd : Led (Zq d (l216.getD k default).typ) (stL d ((l216.getD k default).typ, (l216.getD k default).agg) X) := by rw [hCe, hXr]; exact InvL.run _ _ _
     have hRl : (stL d ((l216.getD k default).typ, (l216.getD k default).agg) X).length = ((d.types.getD (l216.getD k default).typ.toNat default).fields).length := hRt.len
     refine zo rfl ?_
     refine zw ?_
     refine ze ?_
     refine ze ?_
     refine zQ (WF [fun vals wq => Sep G372 w368 ((ViewO b29 d X X) :: (Blk b164 ((yd d (((l216.getD k default).typ), ((l216.getD k default).agg)) X).cells v132).toArray 68) :: (RwC v132 (stL d (((l216.getD k default).typ), ((l216.getD k default).agg)) X)) :: (RwI v46 ((l216.getD k default).deps)) :: (Blk b2 (d.cells dd0 dd1).toArray 25) :: Rs) wq]) (AF [Vl 0 (.pointer (some ⟨b164, 1, none⟩)), Vl 1 (v132), Vl 2 (.int .i64 (((stL d (((l216.getD k default).typ), ((l216.getD k default).agg)) X).length : Nat) : Int)), Vl 3 (.pointer (some ⟨b2, 0, none⟩)), Vl 4 (dd0), Vl 5 (v15), Vl 6 (.int .i64 ((k : Nat) : Int)), Vl 7 (.pointer (some ⟨sb v15, so v15 + k * 10, none⟩)), Vl 8 (.pointer (some ⟨sb v15, so v15 + k * 10 + 4, none⟩)), Vl 9 (.int .i64 ((l216.getD k default).typ)), Vl 10 (.pointer (some ⟨sb dd0, so dd0 + (((l216.getD k default).typ).toNat) * 1, none⟩)), Vl 11 (.pointer (some ⟨sb dd0, so dd0 + (((l216.getD k default).typ).toNat) * 1, none⟩)), Vl 12 ((zj w368 (sb dd0) (so dd0 + (((l216.getD k default).typ).toNat) * 1 + 0))), Vl 13 (.int .i64 ((((d.types.getD (((l216.getD k default).typ).toNat) default).fields).length : Nat) : Int)), Vl 14 (.bool false)]) [[], [0], [0, 1], [], [3], [], [], [5, 6], [5, 6, 7], [5, 6, 7, 8], [3, 4, 5, 6, 7, 8, 9], [3, 4, 5, 6, 7, 8, 9, 10], [3, 4, 5, 6, 7, 8, 9, 10, 11], [3, 4, 5, 6, 7, 8, 9, 10, 11, 12], [0, 1, 2, 3, 4, 5, 6, 7, 8, 9, 10, 11, 12, 13]] [] [(0, 0), (0, 0), (0, 0), (0, 0), (0, 0), (0, 0), (0, 0), (0, 0), (0, 0), (0, 0), (0, 0), (0, 0), (0, 0), (0, 0), (0, 0)] (by kernel_rfl) (by kernel_rfl) (by kernel_rfl) rfl (by kernel_rfl) (by kernel_rfl) (fun _ h1 h2 h3 h4 _ => hS382.same h1 h2 h3 h4) ?_ (yi ⟨dA, dA, dA, dA, dA, dA, dA, dA, dA, dA, dA, dA, dA, dA, dA, trivial⟩) ⟨?_, ?_, ?_, ?_, ?_, ?_, ?_, ?_, ?_, ?_, ?_, ?_, ?_, ?_, ?_, trivial⟩ ?_
     ·intro k vals vals' w hv h
      match k, h with
      | 0, h => exact h
      | _ + 1, _ => trivial
     ·intro k544 vals w545 h548 h549 hW547 hA546
      refine obl rfl ?_
      exact yO rfl (fun vals' hv _ => ⟨rfl, hv⟩)
     ·intro k550 vals w551 h554 h555 hW553 hA552
      obtain rfl : k550 = 0 := Nat.le_antisymm h555 h554
      have hS556 : Sep _ _ _ _ := hW553
      have e557 := hA552 0 (by decide)
      refine obl rfl ?_
      exact zf (v := v132) Tryd.isAgg26 e557 (zh (hS556.blk (i := 1) rfl) rfl) (fun vals' hv _ => ⟨rfl, hv⟩)
     ·intro k558 vals w559 h562 h563 hW561 hA560
      obtain rfl : k558 = 0 := Nat.le_antisymm h563 h562
      have hS564 : Sep _ _ _ _ := hW561
      have e565 := hA560 1 (by decide)
      refine obl rfl ?_
      exact zK (n := (stL d (((l216.getD k default).typ), ((l216.getD k default).agg)) X).length) Tryd.underlying26 e565 hr415.1 (fun vals' hv _ => ⟨rfl, hv⟩)
     ·intro k566 vals w567 h570 h571 hW569 hA568
      refine obl rfl ?_
      exact yx rfl (fun vals' hv _ => ⟨rfl, hv⟩)
     ·intro k572 vals w573 h576 h577 hW575 hA574
      obtain rfl : k572 = 0 := Nat.le_antisymm h577 h576
      have hS578 : Sep _ _ _ _ := hW575
      have e579 := hA574 3 (by decide)
      refine obl rfl ?_
      exact zf (v := dd0) Tryd.isAgg22 e579 (zh (hS578.blk (i := 4) rfl) rfl) (fun vals' hv _ => ⟨rfl, hv⟩)
     ·intro k580 vals w581 h584 h585 hW583 hA582
      refine obl rfl ?_
      exact zb (v := v15) rfl (fun vals' hv _ => ⟨rfl, hv⟩)
     ·intro k586 vals w587 h590 h591 hW589 hA588
      refine obl rfl ?_
      exact zb (v := .int .i64 ((k : Nat) : Int)) rfl (fun vals' hv _ => ⟨rfl, hv⟩)
     ·intro k592 vals w593 h596 h597 hW595 hA594
      obtain rfl : k592 = 0 := Nat.le_antisymm h597 h596
      have hS598 : Sep _ _ _ _ := hW595
      have e599 := hA594 5 (by decide)
      have e600 := hA594 6 (by decide)
      refine obl rfl ?_
      have hi601 : k < l216.length := (by first | omega | (simp only [lens]; omega))
      exact zl (k := 10) (i := k) Tryd.underlying47 Tryd.sizeOf59 e599 (RdS.base hrd28 hB375).sl e600 hi601 (fun vals' hv _ => ⟨rfl, hv⟩)
     ·intro k602 vals w603 h606 h607 hW605 hA604
      have e608 := hA604 7 (by decide)
      refine obl rfl ?_
      exact xB e608 (fun vals' hv _ => ⟨rfl, hv⟩)
     ·intro k609 vals w610 h613 h614 hW612 hA611
      obtain rfl : k609 = 0 := Nat.le_antisymm h614 h613
      have hS615 : Sep _ _ _ _ := hW612
      have e616 := hA611 8 (by decide)
      refine obl rfl ?_
      have hi618 : k < l216.length := (by first | omega | (simp only [lens]; omega))
      obtain ⟨hce617, hde617_0, hoke617⟩ := (RdS.base hrd28 hB375).ev hi618
      rw [← zm default hi618] at hce617 hde617_0 hoke617
      have hsm619 : ((l216.getD k default).deps).length * 8 ≤ 140737488355328 := hde617_0.small
      have hcw620 := hS615.cells hce617 ((RdS.base hrd28 hB375).foot (ne_of_lt hi618))
      exact zf (v := .int .i64 ((l216.getD k default).typ)) Tryd.isAgg3 e616 (hcw620.get (j := 4) rfl) (fun vals' hv _ => ⟨rfl, hv⟩)
     ·intro k621 vals w622 h625 h626 hW624 hA623
      obtain rfl : k621 = 0 := Nat.le_antisymm h626 h625
      have hS627 : Sep _ _ _ _ := hW624
      have e628 := hA623 4 (by decide)
      have e629 := hA623 9 (by decide)
      refine obl rfl ?_
      have hi630 : ((l216.getD k default).typ).toNat < d.types.length := (by first | omega | (simp only [lens]; omega))
      exact zD (k := 1) (i := (l216.getD k default).typ) Tryd.underlying22 Tryd.sizeOf33 e628 (RdS.base (RdS.base hdd0 hB25) hB375).sl e629 ⟨by omega, by omega⟩ (fun vals' hv _ => ⟨rfl, hv⟩)
     ·intro k631 vals w632 h635 h636 hW634 hA633
      have e637 := hA633 10 (by decide)
      refine obl rfl ?_
      exact yI e637 (fun vals' hv _ => ⟨rfl, hv⟩)
     ·intro k638 vals w639 h642 h643 hW641 hA640
      obtain rfl : k638 = 0 := Nat.le_antisymm h643 h642
      have hS644 : Sep _ _ _ _ := hW641
      have e645 := hA640 11 (by decide)
      refine obl rfl ?_
      have hi647 : ((l216.getD k default).typ).toNat < d.types.length := (by first | omega | (simp only [lens]; omega))
      obtain ⟨hce646, hde646_0, hoke646⟩ := (RdS.base (RdS.base hdd0 hB25) hB375).typ hi647
      rw [← zm default hi647] at hce646 hde646_0 hoke646
      have hsm648 : ((d.types.getD (((l216.getD k default).typ).toNat) default).fields).length * 48 ≤ 140737488355328 := hde646_0.small
      have hcw649 := hS644.cells hce646 ((RdS.base (RdS.base hdd0 hB25) hB375).foot (ne_of_lt hi647))
      exact zf (v := (zj w368 (sb dd0) (so dd0 + (((l216.getD k default).typ).toNat) * 1 + 0))) Tryd.isAgg31 e645 (hcw649.get (j := 0) rfl) (fun vals' hv _ => ⟨rfl, hv⟩)
     ·intro k650 vals w651 h654 h655 hW653 hA652
      obtain rfl : k650 = 0 := Nat.le_antisymm h655 h654
      have hS656 : Sep _ _ _ _ := hW653
      have e657 := hA652 12 (by decide)
      refine obl rfl ?_
      have hi659 : ((l216.getD k default).typ).toNat < d.types.length := (by first | omega | (simp only [lens]; omega))
      obtain ⟨hce658, hde658_0, hoke658⟩ := (RdS.base (RdS.base hdd0 hB25) hB375).typ hi659
      rw [← zm default hi659] at hce658 hde658_0 hoke658
      have hsm660 : ((d.types.getD (((l216.getD k default).typ).toNat) default).fields).length * 48 ≤ 140737488355328 := hde658_0.small
      have hcw661 := hS656.cells hce658 ((RdS.base (RdS.base hdd0 hB25) hB375).foot (ne_of_lt hi659))
      exact zK (n := ((d.types.getD (((l216.getD k default).typ).toNat) default).fields).length) Tryd.underlying31 e657 hde658_0.sl (fun vals' hv _ => ⟨rfl, hv⟩)
     ·intro k662 vals w663 h666 h667 hW665 hA664
      obtain rfl : k662 = 0 := Nat.le_antisymm h667 h666
      have hS668 : Sep _ _ _ _ := hW665
      have e669 := hA664 2 (by decide)
      have e670 := hA664 13 (by decide)
      refine obl rfl ?_
      have hl671 : (!decide ((((stL d (((l216.getD k default).typ), ((l216.getD k default).agg)) X).length : Nat) : Int) = ((((d.types.getD (((l216.getD k default).typ).toNat) default).fields).length : Nat) : Int))) = false := (by rw [hRl]; simp)
      exact yz (k := .i64) (a := (((stL d (((l216.getD k default).typ), ((l216.getD k default).agg)) X).length : Nat) : Int)) (b := ((((d.types.getD (((l216.getD k default).typ).toNat) default).fields).length : Nat) : Int)) e669 e670 (fun vals' hv _ => ⟨rfl, hv.trans (congrArg Value.bool hl671)⟩)
     intro vals w672 hW673 hA674
     have hS675 : Sep _ _ _ _ := hW673
     have e676 := hA674 14 (by decide)
     refine yh (kv := [(2, v15), (3, .pointer (some ⟨b2, 0, none⟩)), (7, .pointer (some ⟨b29, 0, none⟩)), (8, .int .i64 ((k : Nat) : Int)), (9, .pointer (some ⟨b164, 0, none⟩)), (10, .bool ((zi d X (((l216.getD k default).typ), ((l216.getD k default).agg))).isSome)), (12, v367), (13, .int .i64 ((j : Nat) : Int)), (11, .int .i64 ((cn : Nat) : Int)), (60, .int .i64 ((j : Nat) : Int)), (61, v367), (62, .int .i64 ((X.length : Nat) : Int)), (63, .bool false), (102, .bool ((zi d X (((l216.getD k default).typ), ((l216.getD k default).agg))).isSome)), (103, .int .i64 ((cn : Nat) : Int)), (104, .bool (decide (0 < ((cn : Nat) : Int)))), (105, .bool (!(((zi d X (((l216.getD k default).typ), ((l216.getD k default).agg))).isSome) == (decide (0 < ((cn : Nat) : Int)))))), (106, .bool (!(((zi d X (((l216.getD k default).typ), ((l216.getD k default).agg))).isSome) == (decide (0 < ((cn : Nat) : Int)))))), (111, .bool ((!(((zi d X (((l216.getD k default).typ), ((l216.getD k default).agg))).isSome) == (decide (0 < ((cn : Nat) : Int))))) || (!decide (((yd d (((l216.getD k default).typ), ((l216.getD k default).agg)) X).ver) = ((cn : Nat) : Int))))), (112, .bool ((!(((zi d X (((l216.getD k default).typ), ((l216.getD k default).agg))).isSome) == (decide (0 < ((cn : Nat) : Int))))) || (!decide (((yd d (((l216.getD k default).typ), ((l216.getD k default).agg)) X).ver) = ((cn : Nat) : Int))))), (121, .bool false), (122, .bool ((zi d X (((l216.getD k default).typ), ((l216.getD k default).agg))).isSome)), (123, .bool false), (138, .bool false)]) ⟨rfl, rfl, rfl, rfl, rfl, rfl, rfl, rfl, rfl, rfl, rfl, rfl, rfl, rfl, rfl, rfl, rfl, rfl, rfl, rfl, rfl, rfl, rfl, (by exact e676), trivial⟩ (fun ρw672 => ?_)
     refine zg ?_
     refine zo rfl ?_
     refine zw ?_
     refine ze ?_
     have hS677 := hS675.mv2
     obtain ⟨G678, hA680, hB681, hS682, hk683⟩ := hS677.lend
     have hrd684 := RowE.rd hA680
     have hrd684s : _ * 32 ≤ _ := hrd684.small
     refine za (by kernel_rfl) (fun _ => ?_)
     refine st (zd (v := .int .i64 (0)) rfl ?_)
     refine zg ?_
     refine zy ?_
     refine yr (fun mq σ wq => ∃ (i : Nat) (ρ : Env), mq = (stL d ((l216.getD k default).typ, (l216.getD k default).agg) X).length - i ∧ σ = yt ρ [(2, v15), (3, .pointer (some ⟨b2, 0, none⟩)), (7, .pointer (some ⟨b29, 0, none⟩)), (8, .int .i64 ((k : Nat) : Int)), (9, .pointer (some ⟨b164, 0, none⟩)), (14, .int .i64 ((i : Nat) : Int))] ∧ (i ≤ (stL d ((l216.getD k default).typ, (l216.getD k default).agg) X).length) ∧ Sep G678 w672 ((ViewO b29 d X X) :: (Blk b164 ((yd d (((l216.getD k default).typ), ((l216.getD k default).agg)) X).cells v132).toArray 68) :: (RwI v46 ((l216.getD k default).deps)) :: (Blk b2 (d.cells dd0 dd1).toArray 25) :: Rs) wq) ⟨0, _, rfl, zq ⟨rfl, rfl, rfl, rfl, rfl, rfl, trivial⟩, Nat.zero_le _, hS682⟩ ?_
     rintro m686 σ687 w685 ⟨i, ρl3, rfl, rfl, hki, hS688⟩
     refine ze ?_
     refine ze ?_
     refine za (by kernel_rfl) (fun _ => ?_)
     refine st (zb (v := .int .i64 ((i : Nat) : Int)) rfl ?_)
     refine st (yO rfl ?_)
     refine st (zf (v := v132) Tryd.isAgg26 rfl (zh (hS688.blk (i := 1) rfl) rfl) ?_)
     refine st (zK (n := (stL d (((l216.getD k default).typ), ((l216.getD k default).agg)) X).length) Tryd.underlying26 rfl hrd684.sl ?_)
     refine st (zP (k := .i64) (a := ((i : Nat) : Int)) (b := (((stL d (((l216.getD k default).typ), ((l216.getD k default).agg)) X).length : Nat) : Int)) rfl rfl ?_)
     refine zg ?_
     cases hc689 : decide (((i : Nat) : Int) < (((stL d (((l216.getD k default).typ), ((l216.getD k default).agg)) X).length : Nat) : Int))
     ·skip
      have hc689r := hc689
      have hc689 := of_decide_eq_false hc689
      refine zo rfl ?_
      refine yp ?_
      refine yf ?_
      refine za (by kernel_rfl) (fun _ => ?_)
      refine st (zb (v := .int .i64 ((k : Nat) : Int)) rfl ?_)
      have hr690 : InR ((k + 1 : Nat) : Int) := by first | omega | (simp only [lens]; omega)
      refine st (ye (r := ((k + 1 : Nat) : Int)) (k := .i64) (a := ((k : Nat) : Int)) (b := 1) rfl rfl (by rw [show (((k : Nat) : Int) + 1 : Int) = ((k + 1 : Nat) : Int) by first | omega | (simp only [lens]; omega)]; exact zS hr690) ?_)
      refine st (zd (v := .int .i64 ((k + 1 : Nat) : Int)) rfl ?_)
      refine zg ?_
      have hS691 := hk683 _ _ hS688
      have hS692 := hk377 _ _ hS691
      have hS693 : Sep G22 w19 ((ViewO b29 d X X) :: (Blk b2 (d.cells dd0 dd1).toArray 25) :: Rs) w685 := hS692.sel 6 [2, 5] (Nat.le_add_left _ _) rfl rfl
      have hL694 : (yK d (l216.take (k + 1))) = X := hXr.symm
      rw [← hL694] at hS693
      exact ⟨_, by omega, k + 1, _, rfl, zq ⟨rfl, rfl, rfl, rfl, trivial⟩, by omega, hS693⟩
     ·skip
      have hc689r := hc689
      have hc689 := of_decide_eq_true hc689
      have hil : i < ((d.types.getD (l216.getD k default).typ.toNat default).fields).length := by omega
      refine zp rfl ?_
      refine zw ?_
      refine ze ?_
      refine zy ?_
      refine ze ?_
      refine zQ ((fun TT pp0 => WF [fun vals wq => Sep G678 w672 (pp0 :: TT) wq, fun vals wq => ∃ (b823 : Nat), (vals 13 = (.pointer (some ⟨b823, 0, none⟩) : Value)) ∧ Sep G678 w672 ((Blk b823 #[.int .i64 (0), .int .i64 (0), .bool false, (.slice none 0 0)] 79) :: pp0 :: TT) wq, fun vals wq => ∃ (b823 : Nat), (vals 13 = (.pointer (some ⟨b823, 0, none⟩) : Value)) ∧ Sep G678 w672 ((Blk b823 ((((d.types.getD (((l216.getD k default).typ).toNat) default).fields).getD i default).cells (zj w672 (sb (zj w672 (sb dd0) (so dd0 + (((l216.getD k default).typ).toNat) * 1 + 0))) (so (zj w672 (sb dd0) (so dd0 + (((l216.getD k default).typ).toNat) * 1 + 0)) + i * 4 + 3))).toArray 79) :: pp0 :: TT) wq]) ((Blk b164 ((yd d (((l216.getD k default).typ), ((l216.getD k default).agg)) X).cells v132).toArray 68) :: (RwI v46 ((l216.getD k default).deps)) :: (Blk b2 (d.cells dd0 dd1).toArray 25) :: Rs) (ViewO b29 d X X)) (AF [Vl 0 (.pointer (some ⟨b2, 0, none⟩)), Vl 1 (dd0), Vl 2 (v15), Vl 3 (.int .i64 ((k : Nat) : Int)), Vl 4 (.pointer (some ⟨sb v15, so v15 + k * 10, none⟩)), Vl 5 (.pointer (some ⟨sb v15, so v15 + k * 10 + 4, none⟩)), Vl 6 (.int .i64 ((l216.getD k default).typ)), Vl 7 (.pointer (some ⟨sb dd0, so dd0 + (((l216.getD k default).typ).toNat) * 1, none⟩)), Vl 8 (.pointer (some ⟨sb dd0, so dd0 + (((l216.getD k default).typ).toNat) * 1, none⟩)), Vl 9 ((zj w672 (sb dd0) (so dd0 + (((l216.getD k default).typ).toNat) * 1 + 0))), Vl 10 (.int .i64 ((i : Nat) : Int)), Vl 11 (.pointer (some ⟨sb (zj w672 (sb dd0) (so dd0 + (((l216.getD k default).typ).toNat) * 1 + 0)), so (zj w672 (sb dd0) (so dd0 + (((l216.getD k default).typ).toNat) * 1 + 0)) + i * 4, none⟩)), Vl 12 (.agg ((((d.types.getD (((l216.getD k default).typ).toNat) default).fields).getD i default).cells (zj w672 (sb (zj w672 (sb dd0) (so dd0 + (((l216.getD k default).typ).toNat) * 1 + 0))) (so (zj w672 (sb dd0) (so dd0 + (((l216.getD k default).typ).toNat) * 1 + 0)) + i * 4 + 3))).toArray), fun _ => True, fun _ => True]) [[], [0], [], [], [2, 3], [2, 3, 4], [2, 3, 4, 5], [0, 1, 2, 3, 4, 5, 6], [0, 1, 2, 3, 4, 5, 6, 7], [0, 1, 2, 3, 4, 5, 6, 7, 8], [], [0, 1, 2, 3, 4, 5, 6, 7, 8, 9, 10], [0, 1, 2, 3, 4, 5, 6, 7, 8, 9, 10, 11], [], [0, 1, 2, 3, 4, 5, 6, 7, 8, 9, 10, 11, 12, 13]] [13, 14] [(0, 1), (0, 1), (0, 1), (0, 1), (0, 1), (0, 1), (0, 1), (0, 1), (0, 1), (0, 1), (0, 1), (0, 1), (0, 1), (0, 0), (1, 1)] (by kernel_rfl) (by kernel_rfl) (by kernel_rfl) rfl (by kernel_rfl) (by kernel_rfl) (fun _ h1 h2 h3 h4 _ => hS688.same h1 h2 h3 h4) ?_ (yi ⟨dA, dA, dA, dA, dA, dA, dA, dA, dA, dA, dA, dA, dA, dT, dT, trivial⟩) ⟨?_, ?_, ?_, ?_, ?_, ?_, ?_, ?_, ?_, ?_, ?_, ?_, ?_, ?_, ?_, trivial⟩ ?_
      ·intro k vals vals' w hv h
       have e : ∀ j ∈ ([13, 14] : List Nat), vals' j = vals j := hv
       match k, h with
       | 0, h => exact h
       | 1, h => exact (by simpa only [WF, List.getElem?_cons_zero, List.getElem?_cons_succ, e 13 (by decide)] using h)
       | 2, h => exact (by simpa only [WF, List.getElem?_cons_zero, List.getElem?_cons_succ, e 13 (by decide)] using h)
       | _ + 3, _ => trivial
      ·intro k846 vals w847 h850 h851 hW849 hA848
       refine obl rfl ?_
       exact yx rfl (fun vals' hv _ => ⟨rfl, hv⟩)
      ·intro k852 vals w853 h856 h857 hW855 hA854
       have hkk : k852 = 0 ∨ k852 = 1 := by have h1 : 0 ≤ k852 := h856; have h2 : k852 ≤ 1 := h857; omega
       rcases hkk with rfl | rfl
       ·skip
        have hS858 : Sep _ _ _ _ := hW855
        have e859 := hA854 0 (by decide)
        refine obl rfl ?_
        exact zf (v := dd0) Tryd.isAgg22 e859 (zh (hS858.blk (i := 3) rfl) rfl) (fun vals' hv _ => ⟨rfl, hv⟩)
       ·skip
        obtain ⟨b823, he826, hS860⟩ := hW855
        have e861 := hA854 0 (by decide)
        refine obl rfl ?_
        exact zf (v := dd0) Tryd.isAgg22 e861 (zh (hS860.blk (i := 4) rfl) rfl) (fun vals' hv _ => ⟨rfl, hv⟩)
      ·intro k862 vals w863 h866 h867 hW865 hA864
       refine obl rfl ?_
       exact zb (v := v15) rfl (fun vals' hv _ => ⟨rfl, hv⟩)
      ·intro k868 vals w869 h872 h873 hW871 hA870
       refine obl rfl ?_
       exact zb (v := .int .i64 ((k : Nat) : Int)) rfl (fun vals' hv _ => ⟨rfl, hv⟩)
      ·intro k874 vals w875 h878 h879 hW877 hA876
       have hkk : k874 = 0 ∨ k874 = 1 := by have h1 : 0 ≤ k874 := h878; have h2 : k874 ≤ 1 := h879; omega
       rcases hkk with rfl | rfl
       ·skip
        have hS880 : Sep _ _ _ _ := hW877
        have e881 := hA876 2 (by decide)
        have e882 := hA876 3 (by decide)
        refine obl rfl ?_
        have hi883 : k < l216.length := (by first | omega | (simp only [lens]; omega))
        exact zl (k := 10) (i := k) Tryd.underlying47 Tryd.sizeOf59 e881 (RdS.base (RdS.base hrd28 hB375) hB681).sl e882 hi883 (fun vals' hv _ => ⟨rfl, hv⟩)
       ·skip
        obtain ⟨b823, he826, hS884⟩ := hW877
        have e885 := hA876 2 (by decide)
        have e886 := hA876 3 (by decide)
        refine obl rfl ?_
        have hi887 : k < l216.length := (by first | omega | (simp only [lens]; omega))
        exact zl (k := 10) (i := k) Tryd.underlying47 Tryd.sizeOf59 e885 (RdS.base (RdS.base hrd28 hB375) hB681).sl e886 hi887 (fun vals' hv _ => ⟨rfl, hv⟩)
      ·intro k888 vals w889 h892 h893 hW891 hA890
       have e894 := hA890 4 (by decide)
       refine obl rfl ?_
       exact xB e894 (fun vals' hv _ => ⟨rfl, hv⟩)
      ·intro k895 vals w896 h899 h900 hW898 hA897
       have hkk : k895 = 0 ∨ k895 = 1 := by have h1 : 0 ≤ k895 := h899; have h2 : k895 ≤ 1 := h900; omega
       rcases hkk with rfl | rfl
       ·skip
        have hS901 : Sep _ _ _ _ := hW898
        have e902 := hA897 5 (by decide)
        refine obl rfl ?_
        have hi904 : k < l216.length := (by first | omega | (simp only [lens]; omega))
        obtain ⟨hce903, hde903_0, hoke903⟩ := (RdS.base (RdS.base hrd28 hB375) hB681).ev hi904
        rw [← zm default hi904] at hce903 hde903_0 hoke903
        have hsm905 : ((l216.getD k default).deps).length * 8 ≤ 140737488355328 := hde903_0.small
        have hcw906 := hS901.cells hce903 ((RdS.base (RdS.base hrd28 hB375) hB681).foot (ne_of_lt hi904))
        exact zf (v := .int .i64 ((l216.getD k default).typ)) Tryd.isAgg3 e902 (hcw906.get (j := 4) rfl) (fun vals' hv _ => ⟨rfl, hv⟩)
       ·skip
        obtain ⟨b823, he826, hS907⟩ := hW898
        have e908 := hA897 5 (by decide)
        refine obl rfl ?_
        have hi910 : k < l216.length := (by first | omega | (simp only [lens]; omega))
        obtain ⟨hce909, hde909_0, hoke909⟩ := (RdS.base (RdS.base hrd28 hB375) hB681).ev hi910
        rw [← zm default hi910] at hce909 hde909_0 hoke909
        have hsm911 : ((l216.getD k default).deps).length * 8 ≤ 140737488355328 := hde909_0.small
        have hcw912 := hS907.cells hce909 ((RdS.base (RdS.base hrd28 hB375) hB681).foot (ne_of_lt hi910))
        exact zf (v := .int .i64 ((l216.getD k default).typ)) Tryd.isAgg3 e908 (hcw912.get (j := 4) rfl) (fun vals' hv _ => ⟨rfl, hv⟩)
      ·intro k913 vals w914 h917 h918 hW916 hA915
       have hkk : k913 = 0 ∨ k913 = 1 := by have h1 : 0 ≤ k913 := h917; have h2 : k913 ≤ 1 := h918; omega
       rcases hkk with rfl | rfl
       ·skip
        have hS919 : Sep _ _ _ _ := hW916
        have e920 := hA915 1 (by decide)
        have e921 := hA915 6 (by decide)
        refine obl rfl ?_
        have hi922 : ((l216.getD k default).typ).toNat < d.types.length := (by first | omega | (simp only [lens]; omega))
        exact zD (k := 1) (i := (l216.getD k default).typ) Tryd.underlying22 Tryd.sizeOf33 e920 (RdS.base (RdS.base (RdS.base hdd0 hB25) hB375) hB681).sl e921 ⟨by omega, by omega⟩ (fun vals' hv _ => ⟨rfl, hv⟩)
       ·skip
        obtain ⟨b823, he826, hS923⟩ := hW916
        have e924 := hA915 1 (by decide)
        have e925 := hA915 6 (by decide)
        refine obl rfl ?_
        have hi926 : ((l216.getD k default).typ).toNat < d.types.length := (by first | omega | (simp only [lens]; omega))
        exact zD (k := 1) (i := (l216.getD k default).typ) Tryd.underlying22 Tryd.sizeOf33 e924 (RdS.base (RdS.base (RdS.base hdd0 hB25) hB375) hB681).sl e925 ⟨by omega, by omega⟩ (fun vals' hv _ => ⟨rfl, hv⟩)
      ·intro k927 vals w928 h931 h932 hW930 hA929
       have e933 := hA929 7 (by decide)
       refine obl rfl ?_
       exact yI e933 (fun vals' hv _ => ⟨rfl, hv⟩)
      ·intro k934 vals w935 h938 h939 hW937 hA936
       have hkk : k934 = 0 ∨ k934 = 1 := by have h1 : 0 ≤ k934 := h938; have h2 : k934 ≤ 1 := h939; omega
       rcases hkk with rfl | rfl
       ·skip
        have hS940 : Sep _ _ _ _ := hW937
        have e941 := hA936 8 (by decide)
        refine obl rfl ?_
        have hi943 : ((l216.getD k default).typ).toNat < d.types.length := (by first | omega | (simp only [lens]; omega))
        obtain ⟨hce942, hde942_0, hoke942⟩ := (RdS.base (RdS.base (RdS.base hdd0 hB25) hB375) hB681).typ hi943
        rw [← zm default hi943] at hce942 hde942_0 hoke942
        have hsm944 : ((d.types.getD (((l216.getD k default).typ).toNat) default).fields).length * 48 ≤ 140737488355328 := hde942_0.small
        have hcw945 := hS940.cells hce942 ((RdS.base (RdS.base (RdS.base hdd0 hB25) hB375) hB681).foot (ne_of_lt hi943))
        exact zf (v := (zj w672 (sb dd0) (so dd0 + (((l216.getD k default).typ).toNat) * 1 + 0))) Tryd.isAgg31 e941 (hcw945.get (j := 0) rfl) (fun vals' hv _ => ⟨rfl, hv⟩)
       ·skip
        obtain ⟨b823, he826, hS946⟩ := hW937
        have e947 := hA936 8 (by decide)
        refine obl rfl ?_
        have hi949 : ((l216.getD k default).typ).toNat < d.types.length := (by first | omega | (simp only [lens]; omega))
        obtain ⟨hce948, hde948_0, hoke948⟩ := (RdS.base (RdS.base (RdS.base hdd0 hB25) hB375) hB681).typ hi949
        rw [← zm default hi949] at hce948 hde948_0 hoke948
        have hsm950 : ((d.types.getD (((l216.getD k default).typ).toNat) default).fields).length * 48 ≤ 140737488355328 := hde948_0.small
        have hcw951 := hS946.cells hce948 ((RdS.base (RdS.base (RdS.base hdd0 hB25) hB375) hB681).foot (ne_of_lt hi949))
        exact zf (v := (zj w672 (sb dd0) (so dd0 + (((l216.getD k default).typ).toNat) * 1 + 0))) Tryd.isAgg31 e947 (hcw951.get (j := 0) rfl) (fun vals' hv _ => ⟨rfl, hv⟩)
      ·intro k952 vals w953 h956 h957 hW955 hA954
       refine obl rfl ?_
       exact zb (v := .int .i64 ((i : Nat) : Int)) rfl (fun vals' hv _ => ⟨rfl, hv⟩)
      ·intro k958 vals w959 h962 h963 hW961 hA960
       have hkk : k958 = 0 ∨ k958 = 1 := by have h1 : 0 ≤ k958 := h962; have h2 : k958 ≤ 1 := h963; omega
       rcases hkk with rfl | rfl
       ·skip
        have hS964 : Sep _ _ _ _ := hW961
        have e965 := hA960 9 (by decide)
        have e966 := hA960 10 (by decide)
        refine obl rfl ?_
        have hi968 : ((l216.getD k default).typ).toNat < d.types.length := (by first | omega | (simp only [lens]; omega))
        obtain ⟨hce967, hde967_0, hoke967⟩ := (RdS.base (RdS.base (RdS.base hdd0 hB25) hB375) hB681).typ hi968
        rw [← zm default hi968] at hce967 hde967_0 hoke967
        have hsm969 : ((d.types.getD (((l216.getD k default).typ).toNat) default).fields).length * 48 ≤ 140737488355328 := hde967_0.small
        have hcw970 := hS964.cells hce967 ((RdS.base (RdS.base (RdS.base hdd0 hB25) hB375) hB681).foot (ne_of_lt hi968))
        have hi971 : i < ((d.types.getD (((l216.getD k default).typ).toNat) default).fields).length := (by first | omega | (simp only [lens]; omega))
        exact zl (k := 4) (i := i) Tryd.underlying31 Tryd.sizeOf79 e965 hde967_0.sl e966 hi971 (fun vals' hv _ => ⟨rfl, hv⟩)
       ·skip
        obtain ⟨b823, he826, hS972⟩ := hW961
        have e973 := hA960 9 (by decide)
        have e974 := hA960 10 (by decide)
        refine obl rfl ?_
        have hi976 : ((l216.getD k default).typ).toNat < d.types.length := (by first | omega | (simp only [lens]; omega))
        obtain ⟨hce975, hde975_0, hoke975⟩ := (RdS.base (RdS.base (RdS.base hdd0 hB25) hB375) hB681).typ hi976
        rw [← zm default hi976] at hce975 hde975_0 hoke975
        have hsm977 : ((d.types.getD (((l216.getD k default).typ).toNat) default).fields).length * 48 ≤ 140737488355328 := hde975_0.small
        have hcw978 := hS972.cells hce975 ((RdS.base (RdS.base (RdS.base hdd0 hB25) hB375) hB681).foot (ne_of_lt hi976))
        have hi979 : i < ((d.types.getD (((l216.getD k default).typ).toNat) default).fields).length := (by first | omega | (simp only [lens]; omega))
        exact zl (k := 4) (i := i) Tryd.underlying31 Tryd.sizeOf79 e973 hde975_0.sl e974 hi979 (fun vals' hv _ => ⟨rfl, hv⟩)
      ·intro k980 vals w981 h984 h985 hW983 hA982
       have hkk : k980 = 0 ∨ k980 = 1 := by have h1 : 0 ≤ k980 := h984; have h2 : k980 ≤ 1 := h985; omega
       rcases hkk with rfl | rfl
       ·skip
        have hS986 : Sep _ _ _ _ := hW983
        have e987 := hA982 11 (by decide)
        refine obl rfl ?_
        have hi990 : ((l216.getD k default).typ).toNat < d.types.length := (by first | omega | (simp only [lens]; omega))
        obtain ⟨hce989, hde989_0, hoke989⟩ := (RdS.base (RdS.base (RdS.base hdd0 hB25) hB375) hB681).typ hi990
        rw [← zm default hi990] at hce989 hde989_0 hoke989
        have hsm991 : ((d.types.getD (((l216.getD k default).typ).toNat) default).fields).length * 48 ≤ 140737488355328 := hde989_0.small
        have hcw992 := hS986.cells hce989 ((RdS.base (RdS.base (RdS.base hdd0 hB25) hB375) hB681).foot (ne_of_lt hi990))
        have hi993 : i < ((d.types.getD (((l216.getD k default).typ).toNat) default).fields).length := (by first | omega | (simp only [lens]; omega))
        obtain ⟨hce988, hde988_0, hoke988⟩ := hde989_0.fld hi993
        rw [← zm default hi993] at hce988 hde988_0 hoke988
        have hsm994 : ((((d.types.getD (((l216.getD k default).typ).toNat) default).fields).getD i default).moves).length * 32 ≤ 140737488355328 := hde988_0.small
        have hcw995 := hS986.cells hce988 (hde989_0.foot (ne_of_lt hi993))
        exact zn (k := 4) Tryd.isAgg79 Tryd.sizeOf79 rfl e987 hcw995 (fun vals' hv _ => ⟨rfl, hv⟩)
       ·skip
        obtain ⟨b823, he826, hS996⟩ := hW983
        have e997 := hA982 11 (by decide)
        refine obl rfl ?_
        have hi1000 : ((l216.getD k default).typ).toNat < d.types.length := (by first | omega | (simp only [lens]; omega))
        obtain ⟨hce999, hde999_0, hoke999⟩ := (RdS.base (RdS.base (RdS.base hdd0 hB25) hB375) hB681).typ hi1000
        rw [← zm default hi1000] at hce999 hde999_0 hoke999
        have hsm1001 : ((d.types.getD (((l216.getD k default).typ).toNat) default).fields).length * 48 ≤ 140737488355328 := hde999_0.small
        have hcw1002 := hS996.cells hce999 ((RdS.base (RdS.base (RdS.base hdd0 hB25) hB375) hB681).foot (ne_of_lt hi1000))
        have hi1003 : i < ((d.types.getD (((l216.getD k default).typ).toNat) default).fields).length := (by first | omega | (simp only [lens]; omega))
        obtain ⟨hce998, hde998_0, hoke998⟩ := hde999_0.fld hi1003
        rw [← zm default hi1003] at hce998 hde998_0 hoke998
        have hsm1004 : ((((d.types.getD (((l216.getD k default).typ).toNat) default).fields).getD i default).moves).length * 32 ≤ 140737488355328 := hde998_0.small
        have hcw1005 := hS996.cells hce998 (hde999_0.foot (ne_of_lt hi1003))
        exact zn (k := 4) Tryd.isAgg79 Tryd.sizeOf79 rfl e997 hcw1005 (fun vals' hv _ => ⟨rfl, hv⟩)
      ·intro k815 vals w816 h819 h820 hW818 hA817
       obtain rfl : k815 = 0 := Nat.le_antisymm h820 h819
       have hS821 : Sep _ _ _ _ := hW818
       refine obl rfl ?_
       refine (zG Tryd.zeroValue79 ?_)
       intro w824 b823 hn822
       have hS825 := hS821.new hn822
       intro vals' hv hv'
       refine ⟨?_, trivial⟩
       show ∃ (b823 : Nat), (vals' 13 = (.pointer (some ⟨b823, 0, none⟩) : Value)) ∧ Sep G678 w672 ((Blk b823 #[.int .i64 (0), .int .i64 (0), .bool false, (.slice none 0 0)] 79) :: (ViewO b29 d X X) :: (Blk b164 ((yd d (((l216.getD k default).typ), ((l216.getD k default).agg)) X).cells v132).toArray 68) :: (RwI v46 ((l216.getD k default).deps)) :: (Blk b2 (d.cells dd0 dd1).toArray 25) :: Rs) w824
       exact ⟨b823, hv, hS825⟩
      ·intro k827 vals w828 h831 h832 hW830 hA829
       obtain rfl : k827 = 1 := Nat.le_antisymm h832 h831
       obtain ⟨b823, he826, hS833⟩ := hW830
       have e834 := hA829 12 (by decide)
       refine obl rfl ?_
       have hi839 : ((l216.getD k default).typ).toNat < d.types.length := (by first | omega | (simp only [lens]; omega))
       obtain ⟨hce838, hde838_0, hoke838⟩ := (RdS.base (RdS.base (RdS.base hdd0 hB25) hB375) hB681).typ hi839
       rw [← zm default hi839] at hce838 hde838_0 hoke838
       have hsm840 : ((d.types.getD (((l216.getD k default).typ).toNat) default).fields).length * 48 ≤ 140737488355328 := hde838_0.small
       have hcw841 := hS833.cells hce838 ((RdS.base (RdS.base (RdS.base hdd0 hB25) hB375) hB681).foot (ne_of_lt hi839))
       have hi842 : i < ((d.types.getD (((l216.getD k default).typ).toNat) default).fields).length := (by first | omega | (simp only [lens]; omega))
       obtain ⟨hce837, hde837_0, hoke837⟩ := hde838_0.fld hi842
       rw [← zm default hi842] at hce837 hde837_0 hoke837
       have hsm843 : ((((d.types.getD (((l216.getD k default).typ).toNat) default).fields).getD i default).moves).length * 32 ≤ 140737488355328 := hde837_0.small
       have hcw844 := hS833.cells hce837 (hde838_0.foot (ne_of_lt hi842))
       refine (zA (v := .agg ((((d.types.getD (((l216.getD k default).typ).toNat) default).fields).getD i default).cells (zj w672 (sb (zj w672 (sb dd0) (so dd0 + (((l216.getD k default).typ).toNat) * 1 + 0))) (so (zj w672 (sb dd0) (so dd0 + (((l216.getD k default).typ).toNat) * 1 + 0)) + i * 4 + 3))).toArray) (c' := ((((d.types.getD (((l216.getD k default).typ).toNat) default).fields).getD i default).cells (zj w672 (sb (zj w672 (sb dd0) (so dd0 + (((l216.getD k default).typ).toNat) * 1 + 0))) (so (zj w672 (sb dd0) (so dd0 + (((l216.getD k default).typ).toNat) * 1 + 0)) + i * 4 + 3))).toArray) Tryd.sizeOf79 he826 e834 (hS833.blk (i := 0) rfl) (yo ⟨rfl, rfl, rfl, hde837_0.sl.one, trivial⟩) (Nat.le_of_ble_eq_true rfl) rfl ?_)
       intro w835 hp836
       have hS845 := hS833.pt0 hp836
       intro vals' hv hv'
       refine ⟨?_, trivial⟩
       show ∃ (b823 : Nat), (vals' 13 = (.pointer (some ⟨b823, 0, none⟩) : Value)) ∧ Sep G678 w672 ((Blk b823 ((((d.types.getD (((l216.getD k default).typ).toNat) default).fields).getD i default).cells (zj w672 (sb (zj w672 (sb dd0) (so dd0 + (((l216.getD k default).typ).toNat) * 1 + 0))) (so (zj w672 (sb dd0) (so dd0 + (((l216.getD k default).typ).toNat) * 1 + 0)) + i * 4 + 3))).toArray 79) :: (ViewO b29 d X X) :: (Blk b164 ((yd d (((l216.getD k default).typ), ((l216.getD k default).agg)) X).cells v132).toArray 68) :: (RwI v46 ((l216.getD k default).deps)) :: (Blk b2 (d.cells dd0 dd1).toArray 25) :: Rs) w835
       exact ⟨b823, (by rw [hv' 13 (by decide)]; exact he826), hS845⟩
      intro vals w1006 hW1007 hA1008
      obtain ⟨b823, he826, hS1009⟩ := hW1007
      refine yh (kv := [(2, v15), (3, .pointer (some ⟨b2, 0, none⟩)), (7, .pointer (some ⟨b29, 0, none⟩)), (8, .int .i64 ((k : Nat) : Int)), (9, .pointer (some ⟨b164, 0, none⟩)), (14, .int .i64 ((i : Nat) : Int)), (139, .int .i64 ((i : Nat) : Int)), (140, .pointer (some ⟨b164, 1, none⟩)), (141, v132), (142, .int .i64 (((stL d (((l216.getD k default).typ), ((l216.getD k default).agg)) X).length : Nat) : Int)), (143, .bool true), (15, .pointer (some ⟨b823, 0, none⟩))]) ⟨rfl, rfl, rfl, rfl, rfl, rfl, rfl, rfl, rfl, rfl, rfl, (by exact he826), trivial⟩ (fun ρw1006 => ?_)
      refine zg ?_
      refine ze ?_
      refine za (by kernel_rfl) (fun _ => ?_)
      refine st (yO rfl ?_)
      refine st (zf (v := v132) Tryd.isAgg26 rfl (zh (hS1009.blk (i := 2) rfl) rfl) ?_)
      refine st (zb (v := .int .i64 ((i : Nat) : Int)) rfl ?_)
      have hi1010 : i < (stL d (((l216.getD k default).typ), ((l216.getD k default).agg)) X).length := (by first | omega | (simp only [lens]; omega))
      refine st (zl (k := 2) (i := i) Tryd.underlying26 Tryd.sizeOf42 rfl hrd684.sl rfl hi1010 ?_)
      have hi1012 : i < (stL d (((l216.getD k default).typ), ((l216.getD k default).agg)) X).length := (by first | omega | (simp only [lens]; omega))
      obtain ⟨hce1011, hde1011_0, hoke1011⟩ := hrd684.cel hi1012
      rw [← zm default hi1012] at hce1011 hde1011_0 hoke1011
      have hsm1013 : (((stL d (((l216.getD k default).typ), ((l216.getD k default).agg)) X).getD i default).set).length * 8 ≤ 140737488355328 := hde1011_0.small
      have hcw1014 := hS1009.cells hce1011 (hrd684.foot (ne_of_lt hi1012))
      refine st (zn (k := 2) Tryd.isAgg42 Tryd.sizeOf42 rfl rfl hcw1014 ?_)
      refine st (zG Tryd.zeroValue42 ?_)
      intro w1017 b1016 hn1015
      have hS1018 := hS1009.new hn1015
      refine stn (zA (v := .agg (((stL d (((l216.getD k default).typ), ((l216.getD k default).agg)) X).getD i default).cells (zj w672 (sb v132) (so v132 + i * 2 + 1))).toArray) (c' := (((stL d (((l216.getD k default).typ), ((l216.getD k default).agg)) X).getD i default).cells (zj w672 (sb v132) (so v132 + i * 2 + 1))).toArray) Tryd.sizeOf42 rfl rfl (hS1018.blk (i := 0) rfl) (yo ⟨rfl, hde1011_0.sl.one, trivial⟩) (Nat.le_of_ble_eq_true rfl) rfl ?_)
      intro w1019 hp1020
      have hS1021 := hS1018.pt0 hp1020
      refine zg ?_
      refine ze ?_
      refine ze ?_
      refine zE (by kernel_rfl) ?_
      refine st (Xk rfl ?_)
      refine st (zf (v := .bool ((((d.types.getD (((l216.getD k default).typ).toNat) default).fields).getD i default).floor)) Tryd.isAgg4 rfl (zh (hS1021.blk (i := 1) rfl) rfl) ?_)
      refine st (zb (v := .bool ((((d.types.getD (((l216.getD k default).typ).toNat) default).fields).getD i default).floor)) rfl ?_)
      refine stc (V := .pointer (some ⟨b1016, 0, none⟩)) rfl rfl (fun hb1022 => ?_) ?_
      ·have hl1023 := hb1022
       exact xt rfl ⟨rfl, rfl⟩
      refine stc (V := .int .i64 (((stL d (((l216.getD k default).typ), ((l216.getD k default).agg)) X).getD i default).n)) rfl rfl (fun hb1024 => ?_) ?_
      ·have hl1025 := hb1024
       exact zf (v := .int .i64 (((stL d (((l216.getD k default).typ), ((l216.getD k default).agg)) X).getD i default).n)) Tryd.isAgg3 (show _ = (.pointer (some ⟨b1016, 0, none⟩) : Value) from (if_pos hb1024)) (zh (hS1021.blk (i := 0) rfl) rfl) ⟨rfl, rfl⟩
      refine stc (V := .bool (decide ((((stL d (((l216.getD k default).typ), ((l216.getD k default).agg)) X).getD i default).n) < 0))) rfl rfl (fun hb1026 => ?_) ?_
      ·have hl1027 := hb1026
       exact zP (k := .i64) (a := ((stL d (((l216.getD k default).typ), ((l216.getD k default).agg)) X).getD i default).n) (b := 0) (show _ = (.int .i64 (((stL d (((l216.getD k default).typ), ((l216.getD k default).agg)) X).getD i default).n) : Value) from (if_pos hb1026)) rfl ⟨rfl, rfl⟩
      refine st (zF (b := (((d.types.getD (((l216.getD k default).typ).toNat) default).fields).getD i default).floor) (b' := decide ((((stL d (((l216.getD k default).typ), ((l216.getD k default).agg)) X).getD i default).n) < 0)) rfl (fun hbp => (show _ = (.bool (decide ((((stL d (((l216.getD k default).typ), ((l216.getD k default).agg)) X).getD i default).n) < 0)) : Value) from (if_pos hbp))) ?_)
      refine st (zb (v := .bool (((((d.types.getD (((l216.getD k default).typ).toNat) default).fields).getD i default).floor) && (decide ((((stL d (((l216.getD k default).typ), ((l216.getD k default).agg)) X).getD i default).n) < 0)))) rfl ?_)
      refine stc (V := .pointer (some ⟨b823, 0, none⟩)) rfl rfl (fun hb1028 => ?_) ?_
      ·have hl1029 := hb1028
       try simp only [zk] at hl1029
       exact xm rfl ⟨rfl, rfl⟩
      refine stc (V := .int .i64 ((((d.types.getD (((l216.getD k default).typ).toNat) default).fields).getD i default).kind)) rfl rfl (fun hb1030 => ?_) ?_
      ·have hl1031 := hb1030
       try simp only [zk] at hl1031
       exact zf (v := .int .i64 ((((d.types.getD (((l216.getD k default).typ).toNat) default).fields).getD i default).kind)) Tryd.isAgg3 (show _ = (.pointer (some ⟨b823, 0, none⟩) : Value) from (if_pos hb1030)) (zh (hS1021.blk (i := 1) rfl) rfl) ⟨rfl, rfl⟩
      refine stc (V := .bool (decide (((((d.types.getD (((l216.getD k default).typ).toNat) default).fields).getD i default).kind) = 4))) rfl rfl (fun hb1032 => ?_) ?_
      ·have hl1033 := hb1032
       try simp only [zk] at hl1033
       exact ym (k := .i64) (a := (((d.types.getD (((l216.getD k default).typ).toNat) default).fields).getD i default).kind) (b := 4) (show _ = (.int .i64 ((((d.types.getD (((l216.getD k default).typ).toNat) default).fields).getD i default).kind) : Value) from (if_pos hb1032)) rfl ⟨rfl, rfl⟩
      refine stc (V := .bool (decide (((((d.types.getD (((l216.getD k default).typ).toNat) default).fields).getD i default).kind) = 4))) rfl rfl (fun hb1034 => ?_) ?_
      ·have hl1035 := hb1034
       try simp only [zk] at hl1035
       exact zb (v := .bool (decide (((((d.types.getD (((l216.getD k default).typ).toNat) default).fields).getD i default).kind) = 4))) (show _ = (.bool (decide (((((d.types.getD (((l216.getD k default).typ).toNat) default).fields).getD i default).kind) = 4)) : Value) from (if_pos hb1034)) ⟨rfl, rfl⟩
      refine yy (V := .agg ((((d.types.getD (((l216.getD k default).typ).toNat) default).fields).getD i default).cells (zj w672 (sb (zj w672 (sb dd0) (so dd0 + (((l216.getD k default).typ).toNat) * 1 + 0))) (so (zj w672 (sb dd0) (so dd0 + (((l216.getD k default).typ).toNat) * 1 + 0)) + i * 4 + 3))).toArray) rfl rfl (fun hb1036 => ?_) ?_
      ·have hl1037 := hb1036.1
       try simp only [zk] at hl1037
       have hl1038 := hb1036.2
       have hl1038 := of_decide_eq_true hl1038
       exact zn (k := 4) Tryd.isAgg79 Tryd.sizeOf79 rfl rfl (CellsAt.all (hS1021.blk (i := 1) rfl)) ⟨rfl, rfl⟩
      refine yy (V := .pointer (some ⟨b1016, 0, none⟩)) rfl rfl (fun hb1039 => ?_) ?_
      ·have hl1040 := hb1039.1
       try simp only [zk] at hl1040
       have hl1041 := hb1039.2
       have hl1041 := of_decide_eq_true hl1041
       exact xt rfl ⟨rfl, rfl⟩
      refine yy (V := .int .i64 (((stL d (((l216.getD k default).typ), ((l216.getD k default).agg)) X).getD i default).n)) rfl rfl (fun hb1042 => ?_) ?_
      ·have hl1043 := hb1042.1
       try simp only [zk] at hl1043
       have hl1044 := hb1042.2
       have hl1044 := of_decide_eq_true hl1044
       exact zf (v := .int .i64 (((stL d (((l216.getD k default).typ), ((l216.getD k default).agg)) X).getD i default).n)) Tryd.isAgg3 (show _ = (.pointer (some ⟨b1016, 0, none⟩) : Value) from (if_pos ⟨hb1042.1, hb1042.2⟩)) (zh (hS1021.blk (i := 0) rfl) rfl) ⟨rfl, rfl⟩
      refine stcwP (V := .bool ((xz (((d.types.getD (((l216.getD k default).typ).toNat) default).fields).getD i default) (((stL d (((l216.getD k default).typ), ((l216.getD k default).agg)) X).getD i default).n)))) (fun _ wq => Sep G678 w672 ((Blk b1016 (((stL d (((l216.getD k default).typ), ((l216.getD k default).agg)) X).getD i default).cells (zj w672 (sb v132) (so v132 + i * 2 + 1))).toArray 42) :: (Blk b823 ((((d.types.getD (((l216.getD k default).typ).toNat) default).fields).getD i default).cells (zj w672 (sb (zj w672 (sb dd0) (so dd0 + (((l216.getD k default).typ).toNat) * 1 + 0))) (so (zj w672 (sb dd0) (so dd0 + (((l216.getD k default).typ).toNat) * 1 + 0)) + i * 4 + 3))).toArray 79) :: (ViewO b29 d X X) :: (Blk b164 ((yd d (((l216.getD k default).typ), ((l216.getD k default).agg)) X).cells v132).toArray 68) :: (RwI v46 ((l216.getD k default).deps)) :: (Blk b2 (d.cells dd0 dd1).toArray 25) :: Rs) wq) hS1021 rfl rfl (fun hb1045 => ?_) (fun w1058 hS1059 => ?_)
      ·have hl1046 := hb1045.1
       try simp only [zk] at hl1046
       have hl1047 := hb1045.2
       have hl1047 := of_decide_eq_true hl1047
       have hi1050 : ((l216.getD k default).typ).toNat < d.types.length := (by first | omega | (simp only [lens]; omega))
       obtain ⟨hce1049, hde1049_0, hoke1049⟩ := (RdS.base (RdS.base (RdS.base hdd0 hB25) hB375) hB681).typ hi1050
       rw [← zm default hi1050] at hce1049 hde1049_0 hoke1049
       have hsm1051 : ((d.types.getD (((l216.getD k default).typ).toNat) default).fields).length * 48 ≤ 140737488355328 := hde1049_0.small
       have hcw1052 := hS1021.cells hce1049 ((RdS.base (RdS.base (RdS.base hdd0 hB25) hB375) hB681).foot (ne_of_lt hi1050))
       have hi1053 : i < ((d.types.getD (((l216.getD k default).typ).toNat) default).fields).length := (by first | omega | (simp only [lens]; omega))
       obtain ⟨hce1048, hde1048_0, hoke1048⟩ := hde1049_0.fld hi1053
       rw [← zm default hi1053] at hce1048 hde1048_0 hoke1048
       have hsm1054 : ((((d.types.getD (((l216.getD k default).typ).toNat) default).fields).getD i default).moves).length * 32 ≤ 140737488355328 := hde1048_0.small
       have hcw1055 := hS1021.cells hce1048 (hde1049_0.foot (ne_of_lt hi1053))
       refine (zu (f := 42) (vals := [.agg ((((d.types.getD (((l216.getD k default).typ).toNat) default).fields).getD i default).cells (zj w672 (sb (zj w672 (sb dd0) (so dd0 + (((l216.getD k default).typ).toNat) * 1 + 0))) (so (zj w672 (sb dd0) (so dd0 + (((l216.getD k default).typ).toNat) * 1 + 0)) + i * 4 + 3))).toArray, .int .i64 (((stL d (((l216.getD k default).typ), ((l216.getD k default).agg)) X).getD i default).n)]) (cap := []) rfl (yX ⟨(show _ = (.agg ((((d.types.getD (((l216.getD k default).typ).toNat) default).fields).getD i default).cells (zj w672 (sb (zj w672 (sb dd0) (so dd0 + (((l216.getD k default).typ).toNat) * 1 + 0))) (so (zj w672 (sb dd0) (so dd0 + (((l216.getD k default).typ).toNat) * 1 + 0)) + i * 4 + 3))).toArray : Value) from (if_pos ⟨hb1045.1, hb1045.2⟩)), (show _ = (.int .i64 (((stL d (((l216.getD k default).typ), ((l216.getD k default).agg)) X).getD i default).n) : Value) from (if_pos ⟨hb1045.1, hb1045.2⟩)), trivial⟩) Tryd.call42 (D_led (f := (((d.types.getD (((l216.getD k default).typ).toNat) default).fields).getD i default)) (m := ((stL d (((l216.getD k default).typ), ((l216.getD k default).agg)) X).getD i default).n) hde1048_0 hoke1048 hoke1011.n hS1021) ?_)
       rintro _ w1056 ⟨rfl, hS1057⟩
       exact ⟨rfl, hS1057⟩
      refine yy (V := .bool (!(xz (((d.types.getD (((l216.getD k default).typ).toNat) default).fields).getD i default) (((stL d (((l216.getD k default).typ), ((l216.getD k default).agg)) X).getD i default).n)))) rfl rfl (fun hb1060 => ?_) ?_
      ·have hl1061 := hb1060.1
       try simp only [zk] at hl1061
       have hl1062 := hb1060.2
       have hl1062 := of_decide_eq_true hl1062
       exact yB (a := (xz (((d.types.getD (((l216.getD k default).typ).toNat) default).fields).getD i default) (((stL d (((l216.getD k default).typ), ((l216.getD k default).agg)) X).getD i default).n))) (show _ = (.bool ((xz (((d.types.getD (((l216.getD k default).typ).toNat) default).fields).getD i default) (((stL d (((l216.getD k default).typ), ((l216.getD k default).agg)) X).getD i default).n))) : Value) from (if_pos ⟨hb1060.1, hb1060.2⟩)) ⟨rfl, rfl⟩
      refine stc (V := .bool ((decide (((((d.types.getD (((l216.getD k default).typ).toNat) default).fields).getD i default).kind) = 4)) && (!(xz (((d.types.getD (((l216.getD k default).typ).toNat) default).fields).getD i default) (((stL d (((l216.getD k default).typ), ((l216.getD k default).agg)) X).getD i default).n))))) rfl rfl (fun hb1063 => ?_) ?_
      ·have hl1064 := hb1063
       try simp only [zk] at hl1064
       exact zF (b := decide (((((d.types.getD (((l216.getD k default).typ).toNat) default).fields).getD i default).kind) = 4)) (b' := !(xz (((d.types.getD (((l216.getD k default).typ).toNat) default).fields).getD i default) (((stL d (((l216.getD k default).typ), ((l216.getD k default).agg)) X).getD i default).n))) (show _ = (.bool (decide (((((d.types.getD (((l216.getD k default).typ).toNat) default).fields).getD i default).kind) = 4)) : Value) from (if_pos hb1063)) (fun hbp => (show _ = (.bool (!(xz (((d.types.getD (((l216.getD k default).typ).toNat) default).fields).getD i default) (((stL d (((l216.getD k default).typ), ((l216.getD k default).agg)) X).getD i default).n))) : Value) from (if_pos ⟨hb1063, hbp⟩))) ⟨rfl, rfl⟩
      refine st (zx (b := ((((d.types.getD (((l216.getD k default).typ).toNat) default).fields).getD i default).floor) && (decide ((((stL d (((l216.getD k default).typ), ((l216.getD k default).agg)) X).getD i default).n) < 0))) (b' := (decide (((((d.types.getD (((l216.getD k default).typ).toNat) default).fields).getD i default).kind) = 4)) && (!(xz (((d.types.getD (((l216.getD k default).typ).toNat) default).fields).getD i default) (((stL d (((l216.getD k default).typ), ((l216.getD k default).agg)) X).getD i default).n)))) rfl (fun hbp => (show _ = (.bool ((decide (((((d.types.getD (((l216.getD k default).typ).toNat) default).fields).getD i default).kind) = 4)) && (!(xz (((d.types.getD (((l216.getD k default).typ).toNat) default).fields).getD i default) (((stL d (((l216.getD k default).typ), ((l216.getD k default).agg)) X).getD i default).n)))) : Value) from (if_pos hbp))) ?_)
      refine st (zb (v := .bool ((((((d.types.getD (((l216.getD k default).typ).toNat) default).fields).getD i default).floor) && (decide ((((stL d (((l216.getD k default).typ), ((l216.getD k default).agg)) X).getD i default).n) < 0))) || ((decide (((((d.types.getD (((l216.getD k default).typ).toNat) default).fields).getD i default).kind) = 4)) && (!(xz (((d.types.getD (((l216.getD k default).typ).toNat) default).fields).getD i default) (((stL d (((l216.getD k default).typ), ((l216.getD k default).agg)) X).getD i default).n)))))) rfl ?_)
      refine stc (V := .pointer (some ⟨b1016, 1, none⟩)) rfl rfl (fun hb1065 => ?_) ?_
      ·have hl1066 := hb1065
       try simp only [zk] at hl1066
       exact yN rfl ⟨rfl, rfl⟩
      refine stc (V := (zj w672 (sb v132) (so v132 + i * 2 + 1))) rfl rfl (fun hb1067 => ?_) ?_
      ·have hl1068 := hb1067
       try simp only [zk] at hl1068
       exact zf (v := (zj w672 (sb v132) (so v132 + i * 2 + 1))) Tryd.isAgg40 (show _ = (.pointer (some ⟨b1016, 1, none⟩) : Value) from (if_pos hb1067)) (zh (hS1059.blk (i := 0) rfl) rfl) ⟨rfl, rfl⟩
      refine stc (V := .int .i64 (((((stL d (((l216.getD k default).typ), ((l216.getD k default).agg)) X).getD i default).set).length : Nat) : Int)) rfl rfl (fun hb1069 => ?_) ?_
      ·have hl1070 := hb1069
       try simp only [zk] at hl1070
       exact zK (n := (((stL d (((l216.getD k default).typ), ((l216.getD k default).agg)) X).getD i default).set).length) Tryd.underlying40 (show _ = ((zj w672 (sb v132) (so v132 + i * 2 + 1)) : Value) from (if_pos hb1069)) hde1011_0.sl ⟨rfl, rfl⟩
      refine stc (V := .bool (decide (64 < (((((stL d (((l216.getD k default).typ), ((l216.getD k default).agg)) X).getD i default).set).length : Nat) : Int)))) rfl rfl (fun hb1071 => ?_) ?_
      ·have hl1072 := hb1071
       try simp only [zk] at hl1072
       exact yG (k := .i64) (a := (((((stL d (((l216.getD k default).typ), ((l216.getD k default).agg)) X).getD i default).set).length : Nat) : Int)) (b := 64) (show _ = (.int .i64 (((((stL d (((l216.getD k default).typ), ((l216.getD k default).agg)) X).getD i default).set).length : Nat) : Int) : Value) from (if_pos hb1071)) rfl ⟨rfl, rfl⟩
      refine st (zx (b := (((((d.types.getD (((l216.getD k default).typ).toNat) default).fields).getD i default).floor) && (decide ((((stL d (((l216.getD k default).typ), ((l216.getD k default).agg)) X).getD i default).n) < 0))) || ((decide (((((d.types.getD (((l216.getD k default).typ).toNat) default).fields).getD i default).kind) = 4)) && (!(xz (((d.types.getD (((l216.getD k default).typ).toNat) default).fields).getD i default) (((stL d (((l216.getD k default).typ), ((l216.getD k default).agg)) X).getD i default).n))))) (b' := decide (64 < (((((stL d (((l216.getD k default).typ), ((l216.getD k default).agg)) X).getD i default).set).length : Nat) : Int))) rfl (fun hbp => (show _ = (.bool (decide (64 < (((((stL d (((l216.getD k default).typ), ((l216.getD k default).agg)) X).getD i default).set).length : Nat) : Int))) : Value) from (if_pos hbp))) ?_)
      refine st (zb (v := .bool (((((((d.types.getD (((l216.getD k default).typ).toNat) default).fields).getD i default).floor) && (decide ((((stL d (((l216.getD k default).typ), ((l216.getD k default).agg)) X).getD i default).n) < 0))) || ((decide (((((d.types.getD (((l216.getD k default).typ).toNat) default).fields).getD i default).kind) = 4)) && (!(xz (((d.types.getD (((l216.getD k default).typ).toNat) default).fields).getD i default) (((stL d (((l216.getD k default).typ), ((l216.getD k default).agg)) X).getD i default).n))))) || (decide (64 < (((((stL d (((l216.getD k default).typ), ((l216.getD k default).agg)) X).getD i default).set).length : Nat) : Int))))) rfl ?_)
      refine stc (V := .pointer (some ⟨b823, 0, none⟩)) rfl rfl (fun hb1073 => ?_) ?_
      ·have hl1074 := hb1073
       try simp only [zk] at hl1074
       exact xm rfl ⟨rfl, rfl⟩
      refine stc (V := .int .i64 ((((d.types.getD (((l216.getD k default).typ).toNat) default).fields).getD i default).kind)) rfl rfl (fun hb1075 => ?_) ?_
      ·have hl1076 := hb1075
       try simp only [zk] at hl1076
       exact zf (v := .int .i64 ((((d.types.getD (((l216.getD k default).typ).toNat) default).fields).getD i default).kind)) Tryd.isAgg3 (show _ = (.pointer (some ⟨b823, 0, none⟩) : Value) from (if_pos hb1075)) (zh (hS1059.blk (i := 1) rfl) rfl) ⟨rfl, rfl⟩
      refine stc (V := .bool (!decide (((((d.types.getD (((l216.getD k default).typ).toNat) default).fields).getD i default).kind) = 3))) rfl rfl (fun hb1077 => ?_) ?_
      ·have hl1078 := hb1077
       try simp only [zk] at hl1078
       exact yz (k := .i64) (a := (((d.types.getD (((l216.getD k default).typ).toNat) default).fields).getD i default).kind) (b := 3) (show _ = (.int .i64 ((((d.types.getD (((l216.getD k default).typ).toNat) default).fields).getD i default).kind) : Value) from (if_pos hb1077)) rfl ⟨rfl, rfl⟩
      refine stc (V := .bool (!decide (((((d.types.getD (((l216.getD k default).typ).toNat) default).fields).getD i default).kind) = 3))) rfl rfl (fun hb1079 => ?_) ?_
      ·have hl1080 := hb1079
       try simp only [zk] at hl1080
       exact zb (v := .bool (!decide (((((d.types.getD (((l216.getD k default).typ).toNat) default).fields).getD i default).kind) = 3))) (show _ = (.bool (!decide (((((d.types.getD (((l216.getD k default).typ).toNat) default).fields).getD i default).kind) = 3)) : Value) from (if_pos hb1079)) ⟨rfl, rfl⟩
      refine yy (V := .pointer (some ⟨b1016, 1, none⟩)) rfl rfl (fun hb1081 => ?_) ?_
      ·have hl1082 := hb1081.1
       try simp only [zk] at hl1082
       have hl1083 := hb1081.2
       have hl1083 := zM hl1083
       exact yN rfl ⟨rfl, rfl⟩
      refine yy (V := (zj w672 (sb v132) (so v132 + i * 2 + 1))) rfl rfl (fun hb1084 => ?_) ?_
      ·have hl1085 := hb1084.1
       try simp only [zk] at hl1085
       have hl1086 := hb1084.2
       have hl1086 := zM hl1086
       exact zf (v := (zj w672 (sb v132) (so v132 + i * 2 + 1))) Tryd.isAgg40 (show _ = (.pointer (some ⟨b1016, 1, none⟩) : Value) from (if_pos ⟨hb1084.1, hb1084.2⟩)) (zh (hS1059.blk (i := 0) rfl) rfl) ⟨rfl, rfl⟩
      refine yy (V := .int .i64 (((((stL d (((l216.getD k default).typ), ((l216.getD k default).agg)) X).getD i default).set).length : Nat) : Int)) rfl rfl (fun hb1087 => ?_) ?_
      ·have hl1088 := hb1087.1
       try simp only [zk] at hl1088
       have hl1089 := hb1087.2
       have hl1089 := zM hl1089
       exact zK (n := (((stL d (((l216.getD k default).typ), ((l216.getD k default).agg)) X).getD i default).set).length) Tryd.underlying40 (show _ = ((zj w672 (sb v132) (so v132 + i * 2 + 1)) : Value) from (if_pos ⟨hb1087.1, hb1087.2⟩)) hde1011_0.sl ⟨rfl, rfl⟩
      refine yy (V := .bool (decide (0 < (((((stL d (((l216.getD k default).typ), ((l216.getD k default).agg)) X).getD i default).set).length : Nat) : Int)))) rfl rfl (fun hb1090 => ?_) ?_
      ·have hl1091 := hb1090.1
       try simp only [zk] at hl1091
       have hl1092 := hb1090.2
       have hl1092 := zM hl1092
       exact yG (k := .i64) (a := (((((stL d (((l216.getD k default).typ), ((l216.getD k default).agg)) X).getD i default).set).length : Nat) : Int)) (b := 0) (show _ = (.int .i64 (((((stL d (((l216.getD k default).typ), ((l216.getD k default).agg)) X).getD i default).set).length : Nat) : Int) : Value) from (if_pos ⟨hb1090.1, hb1090.2⟩)) rfl ⟨rfl, rfl⟩
      refine stc (V := .bool ((!decide (((((d.types.getD (((l216.getD k default).typ).toNat) default).fields).getD i default).kind) = 3)) && (decide (0 < (((((stL d (((l216.getD k default).typ), ((l216.getD k default).agg)) X).getD i default).set).length : Nat) : Int))))) rfl rfl (fun hb1093 => ?_) ?_
      ·have hl1094 := hb1093
       try simp only [zk] at hl1094
       exact zF (b := !decide (((((d.types.getD (((l216.getD k default).typ).toNat) default).fields).getD i default).kind) = 3)) (b' := decide (0 < (((((stL d (((l216.getD k default).typ), ((l216.getD k default).agg)) X).getD i default).set).length : Nat) : Int))) (show _ = (.bool (!decide (((((d.types.getD (((l216.getD k default).typ).toNat) default).fields).getD i default).kind) = 3)) : Value) from (if_pos hb1093)) (fun hbp => (show _ = (.bool (decide (0 < (((((stL d (((l216.getD k default).typ), ((l216.getD k default).agg)) X).getD i default).set).length : Nat) : Int))) : Value) from (if_pos ⟨hb1093, hbp⟩))) ⟨rfl, rfl⟩
      refine st (zx (b := ((((((d.types.getD (((l216.getD k default).typ).toNat) default).fields).getD i default).floor) && (decide ((((stL d (((l216.getD k default).typ), ((l216.getD k default).agg)) X).getD i default).n) < 0))) || ((decide (((((d.types.getD (((l216.getD k default).typ).toNat) default).fields).getD i default).kind) = 4)) && (!(xz (((d.types.getD (((l216.getD k default).typ).toNat) default).fields).getD i default) (((stL d (((l216.getD k default).typ), ((l216.getD k default).agg)) X).getD i default).n))))) || (decide (64 < (((((stL d (((l216.getD k default).typ), ((l216.getD k default).agg)) X).getD i default).set).length : Nat) : Int)))) (b' := (!decide (((((d.types.getD (((l216.getD k default).typ).toNat) default).fields).getD i default).kind) = 3)) && (decide (0 < (((((stL d (((l216.getD k default).typ), ((l216.getD k default).agg)) X).getD i default).set).length : Nat) : Int)))) rfl (fun hbp => (show _ = (.bool ((!decide (((((d.types.getD (((l216.getD k default).typ).toNat) default).fields).getD i default).kind) = 3)) && (decide (0 < (((((stL d (((l216.getD k default).typ), ((l216.getD k default).agg)) X).getD i default).set).length : Nat) : Int)))) : Value) from (if_pos hbp))) ?_)
      have hkn1095 : ((((((((d.types.getD (((l216.getD k default).typ).toNat) default).fields).getD i default).floor) && (decide ((((stL d (((l216.getD k default).typ), ((l216.getD k default).agg)) X).getD i default).n) < 0))) || ((decide (((((d.types.getD (((l216.getD k default).typ).toNat) default).fields).getD i default).kind) = 4)) && (!(xz (((d.types.getD (((l216.getD k default).typ).toNat) default).fields).getD i default) (((stL d (((l216.getD k default).typ), ((l216.getD k default).agg)) X).getD i default).n))))) || (decide (64 < (((((stL d (((l216.getD k default).typ), ((l216.getD k default).agg)) X).getD i default).set).length : Nat) : Int)))) || ((!decide (((((d.types.getD (((l216.getD k default).typ).toNat) default).fields).getD i default).kind) = 3)) && (decide (0 < (((((stL d (((l216.getD k default).typ), ((l216.getD k default).agg)) X).getD i default).set).length : Nat) : Int))))) = false := (Us hRt hLd (by omega))
      rw [hkn1095]
      refine zg ?_
      refine zo rfl ?_
      refine zw ?_
      refine ze ?_
      refine za (by kernel_rfl) (fun _ => ?_)
      refine st (zd (v := .int .i64 (1)) rfl ?_)
      refine zg ?_
      refine zy ?_
      refine yr (fun mq σ wq => ∃ (q : Nat) (ρ : Env), mq = ((stL d ((l216.getD k default).typ, (l216.getD k default).agg) X).getD i default).set.length - q ∧ σ = yt ρ [(2, v15), (3, .pointer (some ⟨b2, 0, none⟩)), (7, .pointer (some ⟨b29, 0, none⟩)), (8, .int .i64 ((k : Nat) : Int)), (9, .pointer (some ⟨b164, 0, none⟩)), (14, .int .i64 ((i : Nat) : Int)), (15, .pointer (some ⟨b823, 0, none⟩)), (16, .pointer (some ⟨b1016, 0, none⟩)), (17, .int .i64 ((q : Nat) : Int))] ∧ (1 ≤ q) ∧ Sep G678 w672 ((Blk b1016 (((stL d (((l216.getD k default).typ), ((l216.getD k default).agg)) X).getD i default).cells (zj w672 (sb v132) (so v132 + i * 2 + 1))).toArray 42) :: (Blk b823 ((((d.types.getD (((l216.getD k default).typ).toNat) default).fields).getD i default).cells (zj w672 (sb (zj w672 (sb dd0) (so dd0 + (((l216.getD k default).typ).toNat) * 1 + 0))) (so (zj w672 (sb dd0) (so dd0 + (((l216.getD k default).typ).toNat) * 1 + 0)) + i * 4 + 3))).toArray 79) :: (ViewO b29 d X X) :: (Blk b164 ((yd d (((l216.getD k default).typ), ((l216.getD k default).agg)) X).cells v132).toArray 68) :: (RwI v46 ((l216.getD k default).deps)) :: (Blk b2 (d.cells dd0 dd1).toArray 25) :: Rs) wq) ⟨1, _, rfl, zq ⟨rfl, rfl, rfl, rfl, rfl, rfl, rfl, rfl, rfl, trivial⟩, Nat.le_refl _, hS1059⟩ ?_
      rintro m1097 σ1098 w1096 ⟨q, ρl4, rfl, rfl, hq1, hS1099⟩
      refine ze ?_
      refine ze ?_
      refine za (by kernel_rfl) (fun _ => ?_)
      refine st (zb (v := .int .i64 ((q : Nat) : Int)) rfl ?_)
      refine st (yN rfl ?_)
      refine st (zf (v := (zj w672 (sb v132) (so v132 + i * 2 + 1))) Tryd.isAgg40 rfl (zh (hS1099.blk (i := 0) rfl) rfl) ?_)
      refine st (zK (n := (((stL d (((l216.getD k default).typ), ((l216.getD k default).agg)) X).getD i default).set).length) Tryd.underlying40 rfl hde1011_0.sl ?_)
      refine st (zP (k := .i64) (a := ((q : Nat) : Int)) (b := (((((stL d (((l216.getD k default).typ), ((l216.getD k default).agg)) X).getD i default).set).length : Nat) : Int)) rfl rfl ?_)
      refine zg ?_
      cases hc1100 : decide (((q : Nat) : Int) < (((((stL d (((l216.getD k default).typ), ((l216.getD k default).agg)) X).getD i default).set).length : Nat) : Int))
      ·skip
       have hc1100r := hc1100
       have hc1100 := of_decide_eq_false hc1100
       refine zo rfl ?_
       refine yp ?_
       refine yf ?_
       refine za (by kernel_rfl) (fun _ => ?_)
       refine st (zb (v := .int .i64 ((i : Nat) : Int)) rfl ?_)
       have hr1101 : InR ((i + 1 : Nat) : Int) := by first | omega | (simp only [lens]; omega)
       refine st (ye (r := ((i + 1 : Nat) : Int)) (k := .i64) (a := ((i : Nat) : Int)) (b := 1) rfl rfl (by rw [show (((i : Nat) : Int) + 1 : Int) = ((i + 1 : Nat) : Int) by first | omega | (simp only [lens]; omega)]; exact zS hr1101) ?_)
       refine st (zd (v := .int .i64 ((i + 1 : Nat) : Int)) rfl ?_)
       refine zg ?_
       have hS1102 : Sep G678 w672 ((ViewO b29 d X X) :: (Blk b164 ((yd d (((l216.getD k default).typ), ((l216.getD k default).agg)) X).cells v132).toArray 68) :: (RwI v46 ((l216.getD k default).deps)) :: (Blk b2 (d.cells dd0 dd1).toArray 25) :: Rs) w1096 := hS1099.sel 6 [2, 3, 4, 5] (Nat.le_add_left _ _) rfl rfl
       exact ⟨_, by omega, i + 1, _, rfl, zq ⟨rfl, rfl, rfl, rfl, rfl, rfl, trivial⟩, by omega, hS1102⟩
      ·skip
       have hc1100r := hc1100
       have hc1100 := of_decide_eq_true hc1100
       refine zp rfl ?_
       refine zw ?_
       refine ze ?_
       refine zy ?_
       refine ze ?_
       refine zQ (WF [fun vals wq => Sep G678 w672 ((Blk b1016 (((stL d (((l216.getD k default).typ), ((l216.getD k default).agg)) X).getD i default).cells (zj w672 (sb v132) (so v132 + i * 2 + 1))).toArray 42) :: (Blk b823 ((((d.types.getD (((l216.getD k default).typ).toNat) default).fields).getD i default).cells (zj w672 (sb (zj w672 (sb dd0) (so dd0 + (((l216.getD k default).typ).toNat) * 1 + 0))) (so (zj w672 (sb dd0) (so dd0 + (((l216.getD k default).typ).toNat) * 1 + 0)) + i * 4 + 3))).toArray 79) :: (ViewO b29 d X X) :: (Blk b164 ((yd d (((l216.getD k default).typ), ((l216.getD k default).agg)) X).cells v132).toArray 68) :: (RwI v46 ((l216.getD k default).deps)) :: (Blk b2 (d.cells dd0 dd1).toArray 25) :: Rs) wq]) (AF [Vl 0 (.pointer (some ⟨b1016, 1, none⟩)), Vl 1 ((zj w672 (sb v132) (so v132 + i * 2 + 1))), Vl 2 (.int .i64 ((q : Nat) : Int)), Vl 3 (.int .i64 ((q - 1 : Nat) : Int)), Vl 4 (.pointer (some ⟨sb (zj w672 (sb v132) (so v132 + i * 2 + 1)), so (zj w672 (sb v132) (so v132 + i * 2 + 1)) + (q - 1) * 1, none⟩)), Vl 5 (.int .i64 (((((stL d (((l216.getD k default).typ), ((l216.getD k default).agg)) X).getD i default).set).getD (q - 1) 0))), Vl 6 (.pointer (some ⟨b1016, 1, none⟩)), Vl 7 ((zj w672 (sb v132) (so v132 + i * 2 + 1))), Vl 8 (.int .i64 ((q : Nat) : Int)), Vl 9 (.pointer (some ⟨sb (zj w672 (sb v132) (so v132 + i * 2 + 1)), so (zj w672 (sb v132) (so v132 + i * 2 + 1)) + q * 1, none⟩)), Vl 10 (.int .i64 (((((stL d (((l216.getD k default).typ), ((l216.getD k default).agg)) X).getD i default).set).getD q 0))), Vl 11 (.bool (decide (((((stL d (((l216.getD k default).typ), ((l216.getD k default).agg)) X).getD i default).set).getD q 0) ≤ ((((stL d (((l216.getD k default).typ), ((l216.getD k default).agg)) X).getD i default).set).getD (q - 1) 0))))]) [[], [0], [], [2], [0, 1, 2, 3], [0, 1, 2, 3, 4], [], [6], [], [6, 7, 8], [6, 7, 8, 9], [0, 1, 2, 3, 4, 5, 6, 7, 8, 9, 10]] [] [(0, 0), (0, 0), (0, 0), (0, 0), (0, 0), (0, 0), (0, 0), (0, 0), (0, 0), (0, 0), (0, 0), (0, 0)] (by kernel_rfl) (by kernel_rfl) (by kernel_rfl) rfl (by kernel_rfl) (by kernel_rfl) (fun _ h1 h2 h3 h4 _ => hS1099.same h1 h2 h3 h4) ?_ (yi ⟨dA, dA, dA, dA, dA, dA, dA, dA, dA, dA, dA, dA, trivial⟩) ⟨?_, ?_, ?_, ?_, ?_, ?_, ?_, ?_, ?_, ?_, ?_, ?_, trivial⟩ ?_
       ·intro k vals vals' w hv h
        match k, h with
        | 0, h => exact h
        | _ + 1, _ => trivial
       ·intro k1203 vals w1204 h1207 h1208 hW1206 hA1205
        refine obl rfl ?_
        exact yN rfl (fun vals' hv _ => ⟨rfl, hv⟩)
       ·intro k1209 vals w1210 h1213 h1214 hW1212 hA1211
        obtain rfl : k1209 = 0 := Nat.le_antisymm h1214 h1213
        have hS1215 : Sep _ _ _ _ := hW1212
        have e1216 := hA1211 0 (by decide)
        refine obl rfl ?_
        exact zf (v := (zj w672 (sb v132) (so v132 + i * 2 + 1))) Tryd.isAgg40 e1216 (zh (hS1215.blk (i := 0) rfl) rfl) (fun vals' hv _ => ⟨rfl, hv⟩)
       ·intro k1217 vals w1218 h1221 h1222 hW1220 hA1219
        refine obl rfl ?_
        exact zb (v := .int .i64 ((q : Nat) : Int)) rfl (fun vals' hv _ => ⟨rfl, hv⟩)
       ·intro k1223 vals w1224 h1227 h1228 hW1226 hA1225
        obtain rfl : k1223 = 0 := Nat.le_antisymm h1228 h1227
        have hS1229 : Sep _ _ _ _ := hW1226
        have e1230 := hA1225 2 (by decide)
        refine obl rfl ?_
        have hr1231 : InR ((q - 1 : Nat) : Int) := by first | omega | (simp only [lens]; omega)
        exact Yc (r := ((q - 1 : Nat) : Int)) (k := .i64) (a := ((q : Nat) : Int)) (b := 1) e1230 rfl (by rw [show (((q : Nat) : Int) - 1 : Int) = ((q - 1 : Nat) : Int) by first | omega | (simp only [lens]; omega)]; exact zS hr1231) (fun vals' hv _ => ⟨rfl, hv⟩)
       ·intro k1232 vals w1233 h1236 h1237 hW1235 hA1234
        obtain rfl : k1232 = 0 := Nat.le_antisymm h1237 h1236
        have hS1238 : Sep _ _ _ _ := hW1235
        have e1239 := hA1234 1 (by decide)
        have e1240 := hA1234 3 (by decide)
        refine obl rfl ?_
        have hi1241 : q - 1 < (((stL d (((l216.getD k default).typ), ((l216.getD k default).agg)) X).getD i default).set).length := (by first | omega | (simp only [lens]; omega))
        exact zl (k := 1) (i := q - 1) Tryd.underlying40 Tryd.sizeOf3 e1239 hde1011_0.sl e1240 hi1241 (fun vals' hv _ => ⟨rfl, hv⟩)
       ·intro k1242 vals w1243 h1246 h1247 hW1245 hA1244
        obtain rfl : k1242 = 0 := Nat.le_antisymm h1247 h1246
        have hS1248 : Sep _ _ _ _ := hW1245
        have e1249 := hA1244 4 (by decide)
        refine obl rfl ?_
        have hi1251 : q - 1 < (((stL d (((l216.getD k default).typ), ((l216.getD k default).agg)) X).getD i default).set).length := (by first | omega | (simp only [lens]; omega))
        obtain ⟨hce1250, hxe1250⟩ := hde1011_0.int hi1251
        rw [← zm 0 hi1251] at hce1250 hxe1250
        have hcw1252 := hS1248.cells hce1250 (hde1011_0.foot (ne_of_lt hi1251))
        exact zf (v := .int .i64 (((((stL d (((l216.getD k default).typ), ((l216.getD k default).agg)) X).getD i default).set).getD (q - 1) 0))) Tryd.isAgg3 e1249 (hcw1252.get (j := 0) rfl) (fun vals' hv _ => ⟨rfl, hv⟩)
       ·intro k1253 vals w1254 h1257 h1258 hW1256 hA1255
        refine obl rfl ?_
        exact yN rfl (fun vals' hv _ => ⟨rfl, hv⟩)
       ·intro k1259 vals w1260 h1263 h1264 hW1262 hA1261
        obtain rfl : k1259 = 0 := Nat.le_antisymm h1264 h1263
        have hS1265 : Sep _ _ _ _ := hW1262
        have e1266 := hA1261 6 (by decide)
        refine obl rfl ?_
        exact zf (v := (zj w672 (sb v132) (so v132 + i * 2 + 1))) Tryd.isAgg40 e1266 (zh (hS1265.blk (i := 0) rfl) rfl) (fun vals' hv _ => ⟨rfl, hv⟩)
       ·intro k1267 vals w1268 h1271 h1272 hW1270 hA1269
        refine obl rfl ?_
        exact zb (v := .int .i64 ((q : Nat) : Int)) rfl (fun vals' hv _ => ⟨rfl, hv⟩)
       ·intro k1273 vals w1274 h1277 h1278 hW1276 hA1275
        obtain rfl : k1273 = 0 := Nat.le_antisymm h1278 h1277
        have hS1279 : Sep _ _ _ _ := hW1276
        have e1280 := hA1275 7 (by decide)
        have e1281 := hA1275 8 (by decide)
        refine obl rfl ?_
        have hi1282 : q < (((stL d (((l216.getD k default).typ), ((l216.getD k default).agg)) X).getD i default).set).length := (by first | omega | (simp only [lens]; omega))
        exact zl (k := 1) (i := q) Tryd.underlying40 Tryd.sizeOf3 e1280 hde1011_0.sl e1281 hi1282 (fun vals' hv _ => ⟨rfl, hv⟩)
       ·intro k1283 vals w1284 h1287 h1288 hW1286 hA1285
        obtain rfl : k1283 = 0 := Nat.le_antisymm h1288 h1287
        have hS1289 : Sep _ _ _ _ := hW1286
        have e1290 := hA1285 9 (by decide)
        refine obl rfl ?_
        have hi1292 : q < (((stL d (((l216.getD k default).typ), ((l216.getD k default).agg)) X).getD i default).set).length := (by first | omega | (simp only [lens]; omega))
        obtain ⟨hce1291, hxe1291⟩ := hde1011_0.int hi1292
        rw [← zm 0 hi1292] at hce1291 hxe1291
        have hcw1293 := hS1289.cells hce1291 (hde1011_0.foot (ne_of_lt hi1292))
        exact zf (v := .int .i64 (((((stL d (((l216.getD k default).typ), ((l216.getD k default).agg)) X).getD i default).set).getD q 0))) Tryd.isAgg3 e1290 (hcw1293.get (j := 0) rfl) (fun vals' hv _ => ⟨rfl, hv⟩)
       ·intro k1294 vals w1295 h1298 h1299 hW1297 hA1296
        obtain rfl : k1294 = 0 := Nat.le_antisymm h1299 h1298
        have hS1300 : Sep _ _ _ _ := hW1297
        have e1301 := hA1296 5 (by decide)
        have e1302 := hA1296 10 (by decide)
        refine obl rfl ?_
        exact xG (k := .i64) (a := ((((stL d (((l216.getD k default).typ), ((l216.getD k default).agg)) X).getD i default).set).getD (q - 1) 0)) (b := ((((stL d (((l216.getD k default).typ), ((l216.getD k default).agg)) X).getD i default).set).getD q 0)) e1301 e1302 (fun vals' hv _ => ⟨rfl, hv⟩)
       intro vals w1303 hW1304 hA1305
       have hS1306 : Sep _ _ _ _ := hW1304
       have e1307 := hA1305 11 (by decide)
       refine yh (kv := [(2, v15), (3, .pointer (some ⟨b2, 0, none⟩)), (7, .pointer (some ⟨b29, 0, none⟩)), (8, .int .i64 ((k : Nat) : Int)), (9, .pointer (some ⟨b164, 0, none⟩)), (14, .int .i64 ((i : Nat) : Int)), (15, .pointer (some ⟨b823, 0, none⟩)), (16, .pointer (some ⟨b1016, 0, none⟩)), (17, .int .i64 ((q : Nat) : Int)), (200, .int .i64 ((q : Nat) : Int)), (201, .pointer (some ⟨b1016, 1, none⟩)), (202, (zj w672 (sb v132) (so v132 + i * 2 + 1))), (203, .int .i64 (((((stL d (((l216.getD k default).typ), ((l216.getD k default).agg)) X).getD i default).set).length : Nat) : Int)), (204, .bool true), (218, .bool (decide (((((stL d (((l216.getD k default).typ), ((l216.getD k default).agg)) X).getD i default).set).getD q 0) ≤ ((((stL d (((l216.getD k default).typ), ((l216.getD k default).agg)) X).getD i default).set).getD (q - 1) 0))))]) ⟨rfl, rfl, rfl, rfl, rfl, rfl, rfl, rfl, rfl, rfl, rfl, rfl, rfl, rfl, (by exact e1307), trivial⟩ (fun ρw1303 => ?_)
       refine zg ?_
       cases hc1308 : decide (((((stL d (((l216.getD k default).typ), ((l216.getD k default).agg)) X).getD i default).set).getD q 0) ≤ ((((stL d (((l216.getD k default).typ), ((l216.getD k default).agg)) X).getD i default).set).getD (q - 1) 0))
       ·skip
        have hc1308r := hc1308
        have hc1308 := of_decide_eq_false hc1308
        refine zo rfl ?_
        refine zw ?_
        refine za (by kernel_rfl) (fun _ => ?_)
        refine st (zb (v := .int .i64 ((q : Nat) : Int)) rfl ?_)
        have hr1309 : InR ((q + 1 : Nat) : Int) := by first | omega | (simp only [lens]; omega)
        refine st (ye (r := ((q + 1 : Nat) : Int)) (k := .i64) (a := ((q : Nat) : Int)) (b := 1) rfl rfl (by rw [show (((q : Nat) : Int) + 1 : Int) = ((q + 1 : Nat) : Int) by first | omega | (simp only [lens]; omega)]; exact zS hr1309) ?_)
        refine st (zd (v := .int .i64 ((q + 1 : Nat) : Int)) rfl ?_)
        refine zg ?_
        exact ⟨_, by omega, q + 1, _, rfl, zq ⟨rfl, rfl, rfl, rfl, rfl, rfl, rfl, rfl, rfl, trivial⟩, by omega, hS1306⟩
       ·skip
        have hc1308r := hc1308
        have hc1308 := of_decide_eq_true hc1308
        exfalso
        have h9 := Yq (hRt.asc i (by omega)) (i := q - 1) (j := q) (by omega) (by omega)
        omega
    ·skip
     have hc414r := hc414
     try simp only [zk] at hc414
     refine zp rfl ?_
     refine yp ?_
     refine yf ?_
     refine za (by kernel_rfl) (fun _ => ?_)
     refine st (zb (v := .int .i64 ((k : Nat) : Int)) rfl ?_)
     have hr1310 : InR ((k + 1 : Nat) : Int) := by first | omega | (simp only [lens]; omega)
     refine st (ye (r := ((k + 1 : Nat) : Int)) (k := .i64) (a := ((k : Nat) : Int)) (b := 1) rfl rfl (by rw [show (((k : Nat) : Int) + 1 : Int) = ((k + 1 : Nat) : Int) by first | omega | (simp only [lens]; omega)]; exact zS hr1310) ?_)
     refine st (zd (v := .int .i64 ((k + 1 : Nat) : Int)) rfl ?_)
     refine zg ?_
     have hS1311 := hk377 _ _ hS382
     have hS1312 : Sep G22 w19 ((ViewO b29 d X X) :: (Blk b2 (d.cells dd0 dd1).toArray 25) :: Rs) w379 := hS1311.sel 6 [1, 5] (Nat.le_add_left _ _) rfl rfl
     have hL1313 : (yK d (l216.take (k + 1))) = X := hXr.symm
     rw [← hL1313] at hS1312
     exact ⟨_, by omega, k + 1, _, rfl, zq ⟨rfl, rfl, rfl, rfl, trivial⟩, by omega, hS1312⟩
   ·skip
    have hc383r := hc383
    have hc383 := of_decide_eq_true hc383
    refine zp rfl ?_
    refine zw ?_
    refine ze ?_
    refine zy ?_
    refine ze ?_
    refine zQ (WF [fun vals wq => Sep G372 w368 ((ViewO b29 d X X) :: (Blk b164 ((yd d (((l216.getD k default).typ), ((l216.getD k default).agg)) X).cells v132).toArray 68) :: (RwC v132 (stL d (((l216.getD k default).typ), ((l216.getD k default).agg)) X)) :: (RwI v46 ((l216.getD k default).deps)) :: (Blk b2 (d.cells dd0 dd1).toArray 25) :: Rs) wq]) (AF [Vl 0 (v367), Vl 1 (.int .i64 ((j : Nat) : Int)), Vl 2 (.pointer (some ⟨sb v367, so v367 + j * 13, none⟩)), Vl 3 (.pointer (some ⟨sb v367, so v367 + j * 13 + 10, none⟩)), Vl 4 (.bool ((X.getD j default).void)), Vl 5 (.bool (!((X.getD j default).void))), Vl 6 (.bool (!((X.getD j default).void))), Vl 7 (if (!((X.getD j default).void)) = true then v367 else undef), Vl 8 (if (!((X.getD j default).void)) = true then .int .i64 ((j : Nat) : Int) else undef), Vl 9 (if (!((X.getD j default).void)) = true then .pointer (some ⟨sb v367, so v367 + j * 13, none⟩) else undef), Vl 10 (if (!((X.getD j default).void)) = true then .pointer (some ⟨sb v367, so v367 + j * 13, none⟩) else undef), Vl 11 (if (!((X.getD j default).void)) = true then .pointer (some ⟨sb v367, so v367 + j * 13 + 4, none⟩) else undef), Vl 12 (if (!((X.getD j default).void)) = true then .int .i64 ((X.getD j default).ev.typ) else undef), Vl 13 (if (!((X.getD j default).void)) = true then v15 else undef), Vl 14 (if (!((X.getD j default).void)) = true then .int .i64 ((k : Nat) : Int) else undef), Vl 15 (if (!((X.getD j default).void)) = true then .pointer (some ⟨sb v15, so v15 + k * 10, none⟩) else undef), Vl 16 (if (!((X.getD j default).void)) = true then .pointer (some ⟨sb v15, so v15 + k * 10 + 4, none⟩) else undef), Vl 17 (if (!((X.getD j default).void)) = true then .int .i64 ((l216.getD k default).typ) else undef), Vl 18 (if (!((X.getD j default).void)) = true then .bool (decide (((X.getD j default).ev.typ) = ((l216.getD k default).typ))) else undef), Vl 19 (.bool ((!((X.getD j default).void)) && (decide (((X.getD j default).ev.typ) = ((l216.getD k default).typ))))), Vl 20 (.bool ((!((X.getD j default).void)) && (decide (((X.getD j default).ev.typ) = ((l216.getD k default).typ))))), Vl 21 (if ((!((X.getD j default).void)) && (decide (((X.getD j default).ev.typ) = ((l216.getD k default).typ)))) = true then v367 else undef), Vl 22 (if ((!((X.getD j default).void)) && (decide (((X.getD j default).ev.typ) = ((l216.getD k default).typ)))) = true then .int .i64 ((j : Nat) : Int) else undef), Vl 23 (if ((!((X.getD j default).void)) && (decide (((X.getD j default).ev.typ) = ((l216.getD k default).typ)))) = true then .pointer (some ⟨sb v367, so v367 + j * 13, none⟩) else undef), Vl 24 (if ((!((X.getD j default).void)) && (decide (((X.getD j default).ev.typ) = ((l216.getD k default).typ)))) = true then .pointer (some ⟨sb v367, so v367 + j * 13, none⟩) else undef), Vl 25 (if ((!((X.getD j default).void)) && (decide (((X.getD j default).ev.typ) = ((l216.getD k default).typ)))) = true then .pointer (some ⟨sb v367, so v367 + j * 13 + 5, none⟩) else undef), Vl 26 (if ((!((X.getD j default).void)) && (decide (((X.getD j default).ev.typ) = ((l216.getD k default).typ)))) = true then .int .i64 ((X.getD j default).ev.agg) else undef), Vl 27 (if ((!((X.getD j default).void)) && (decide (((X.getD j default).ev.typ) = ((l216.getD k default).typ)))) = true then v15 else undef), Vl 28 (if ((!((X.getD j default).void)) && (decide (((X.getD j default).ev.typ) = ((l216.getD k default).typ)))) = true then .int .i64 ((k : Nat) : Int) else undef), Vl 29 (if ((!((X.getD j default).void)) && (decide (((X.getD j default).ev.typ) = ((l216.getD k default).typ)))) = true then .pointer (some ⟨sb v15, so v15 + k * 10, none⟩) else undef), Vl 30 (if ((!((X.getD j default).void)) && (decide (((X.getD j default).ev.typ) = ((l216.getD k default).typ)))) = true then .pointer (some ⟨sb v15, so v15 + k * 10 + 5, none⟩) else undef), Vl 31 (if ((!((X.getD j default).void)) && (decide (((X.getD j default).ev.typ) = ((l216.getD k default).typ)))) = true then .int .i64 ((l216.getD k default).agg) else undef), Vl 32 (if ((!((X.getD j default).void)) && (decide (((X.getD j default).ev.typ) = ((l216.getD k default).typ)))) = true then .bool (decide (((X.getD j default).ev.agg) = ((l216.getD k default).agg))) else undef), Vl 33 (.bool (((!((X.getD j default).void)) && (decide (((X.getD j default).ev.typ) = ((l216.getD k default).typ)))) && (decide (((X.getD j default).ev.agg) = ((l216.getD k default).agg)))))]) [[], [], [0, 1], [0, 1, 2], [0, 1, 2, 3], [0, 1, 2, 3, 4], [0, 1, 2, 3, 4, 5], [0, 1, 2, 3, 4, 5, 6], [0, 1, 2, 3, 4, 5, 6], [0, 1, 2, 3, 4, 5, 6, 7, 8], [0, 1, 2, 3, 4, 5, 6, 7, 8, 9], [0, 1, 2, 3, 4, 5, 6, 7, 8, 9, 10], [0, 1, 2, 3, 4, 5, 6, 7, 8, 9, 10, 11], [0, 1, 2, 3, 4, 5, 6], [0, 1, 2, 3, 4, 5, 6], [0, 1, 2, 3, 4, 5, 6, 13, 14], [0, 1, 2, 3, 4, 5, 6, 13, 14, 15], [0, 1, 2, 3, 4, 5, 6, 13, 14, 15, 16], [0, 1, 2, 3, 4, 5, 6, 7, 8, 9, 10, 11, 12, 13, 14, 15, 16, 17], [0, 1, 2, 3, 4, 5, 6, 7, 8, 9, 10, 11, 12, 13, 14, 15, 16, 17, 18], [0, 1, 2, 3, 4, 5, 6, 7, 8, 9, 10, 11, 12, 13, 14, 15, 16, 17, 18, 19], [0, 1, 2, 3, 4, 5, 6, 7, 8, 9, 10, 11, 12, 13, 14, 15, 16, 17, 18, 19, 20], [0, 1, 2, 3, 4, 5, 6, 7, 8, 9, 10, 11, 12, 13, 14, 15, 16, 17, 18, 19, 20], [0, 1, 2, 3, 4, 5, 6, 7, 8, 9, 10, 11, 12, 13, 14, 15, 16, 17, 18, 19, 20, 21, 22], [0, 1, 2, 3, 4, 5, 6, 7, 8, 9, 10, 11, 12, 13, 14, 15, 16, 17, 18, 19, 20, 21, 22, 23], [0, 1, 2, 3, 4, 5, 6, 7, 8, 9, 10, 11, 12, 13, 14, 15, 16, 17, 18, 19, 20, 21, 22, 23, 24], [0, 1, 2, 3, 4, 5, 6, 7, 8, 9, 10, 11, 12, 13, 14, 15, 16, 17, 18, 19, 20, 21, 22, 23, 24, 25], [0, 1, 2, 3, 4, 5, 6, 7, 8, 9, 10, 11, 12, 13, 14, 15, 16, 17, 18, 19, 20], [0, 1, 2, 3, 4, 5, 6, 7, 8, 9, 10, 11, 12, 13, 14, 15, 16, 17, 18, 19, 20], [0, 1, 2, 3, 4, 5, 6, 7, 8, 9, 10, 11, 12, 13, 14, 15, 16, 17, 18, 19, 20, 27, 28], [0, 1, 2, 3, 4, 5, 6, 7, 8, 9, 10, 11, 12, 13, 14, 15, 16, 17, 18, 19, 20, 27, 28, 29], [0, 1, 2, 3, 4, 5, 6, 7, 8, 9, 10, 11, 12, 13, 14, 15, 16, 17, 18, 19, 20, 27, 28, 29, 30], [0, 1, 2, 3, 4, 5, 6, 7, 8, 9, 10, 11, 12, 13, 14, 15, 16, 17, 18, 19, 20, 21, 22, 23, 24, 25, 26, 27, 28, 29, 30, 31], [0, 1, 2, 3, 4, 5, 6, 7, 8, 9, 10, 11, 12, 13, 14, 15, 16, 17, 18, 19, 20, 21, 22, 23, 24, 25, 26, 27, 28, 29, 30, 31, 32]] [] [(0, 0), (0, 0), (0, 0), (0, 0), (0, 0), (0, 0), (0, 0), (0, 0), (0, 0), (0, 0), (0, 0), (0, 0), (0, 0), (0, 0), (0, 0), (0, 0), (0, 0), (0, 0), (0, 0), (0, 0), (0, 0), (0, 0), (0, 0), (0, 0), (0, 0), (0, 0), (0, 0), (0, 0), (0, 0), (0, 0), (0, 0), (0, 0), (0, 0), (0, 0)] (by kernel_rfl) (by kernel_rfl) (by kernel_rfl) rfl (by kernel_rfl) (by kernel_rfl) (fun _ h1 h2 h3 h4 _ => hS382.same h1 h2 h3 h4) ?_ (yi ⟨dA, dA, dA, dA, dA, dA, dA, dA, dA, dA, dA, dA, dA, dA, dA, dA, dA, dA, dA, dA, dA, dA, dA, dA, dA, dA, dA, dA, dA, dA, dA, dA, dA, dA, trivial⟩) ⟨?_, ?_, ?_, ?_, ?_, ?_, ?_, ?_, ?_, ?_, ?_, ?_, ?_, ?_, ?_, ?_, ?_, ?_, ?_, ?_, ?_, ?_, ?_, ?_, ?_, ?_, ?_, ?_, ?_, ?_, ?_, ?_, ?_, ?_, trivial⟩ ?_
    ·intro k vals vals' w hv h
     match k, h with
     | 0, h => exact h
     | _ + 1, _ => trivial
    ·intro k1660 vals w1661 h1664 h1665 hW1663 hA1662
     refine obl rfl ?_
     exact zb (v := v367) rfl (fun vals' hv _ => ⟨rfl, hv⟩)
    ·intro k1666 vals w1667 h1670 h1671 hW1669 hA1668
     refine obl rfl ?_
     exact zb (v := .int .i64 ((j : Nat) : Int)) rfl (fun vals' hv _ => ⟨rfl, hv⟩)
    ·intro k1672 vals w1673 h1676 h1677 hW1675 hA1674
     obtain rfl : k1672 = 0 := Nat.le_antisymm h1677 h1676
     have hS1678 : Sep _ _ _ _ := hW1675
     have e1679 := hA1674 0 (by decide)
     have e1680 := hA1674 1 (by decide)
     refine obl rfl ?_
     have hi1681 : j < X.length := (by first | omega | (simp only [lens]; omega))
     exact zl (k := 13) (i := j) Tryd.underlying66 Tryd.sizeOf62 e1679 hrd378.sl e1680 hi1681 (fun vals' hv _ => ⟨rfl, hv⟩)
    ·intro k1682 vals w1683 h1686 h1687 hW1685 hA1684
     have e1688 := hA1684 2 (by decide)
     refine obl rfl ?_
     exact Zo e1688 (fun vals' hv _ => ⟨rfl, hv⟩)
    ·intro k1689 vals w1690 h1693 h1694 hW1692 hA1691
     obtain rfl : k1689 = 0 := Nat.le_antisymm h1694 h1693
     have hS1695 : Sep _ _ _ _ := hW1692
     have e1696 := hA1691 3 (by decide)
     refine obl rfl ?_
     have hi1698 : j < X.length := (by first | omega | (simp only [lens]; omega))
     obtain ⟨hce1697, hde1697_0, hoke1697⟩ := hrd378.ent hi1698
     rw [← zm default hi1698] at hce1697 hde1697_0 hoke1697
     have hsm1699 : ((X.getD j default).ev.deps).length * 8 ≤ 140737488355328 := hde1697_0.small
     have hcw1700 := hS1695.cells hce1697 (hrd378.foot (ne_of_lt hi1698))
     exact zf (v := .bool ((X.getD j default).void)) Tryd.isAgg4 e1696 (hcw1700.get (j := 10) rfl) (fun vals' hv _ => ⟨rfl, hv⟩)
    ·intro k1701 vals w1702 h1705 h1706 hW1704 hA1703
     have e1707 := hA1703 4 (by decide)
     refine obl rfl ?_
     exact yB (a := (X.getD j default).void) e1707 (fun vals' hv _ => ⟨rfl, hv⟩)
    ·intro k1708 vals w1709 h1712 h1713 hW1711 hA1710
     have e1714 := hA1710 5 (by decide)
     refine obl rfl ?_
     exact zb (v := .bool (!((X.getD j default).void))) e1714 (fun vals' hv _ => ⟨rfl, hv⟩)
    ·intro k1715 vals w1716 h1719 h1720 hW1718 hA1717
     have e1721 := hA1717 6 (by decide)
     refine zC rfl rfl e1721 (fun hb1722 => ?_) (fun hb1722 => fun vals' hv _ => ⟨trivial, hv.trans (if_neg hb1722).symm⟩)
     have hl1723 := hb1722
     try simp only [zk] at hl1723
     exact zb (v := v367) rfl (fun vals' hv _ => ⟨rfl, hv.trans (if_pos hb1722).symm⟩)
    ·intro k1724 vals w1725 h1728 h1729 hW1727 hA1726
     have e1730 := hA1726 6 (by decide)
     refine zC rfl rfl e1730 (fun hb1731 => ?_) (fun hb1731 => fun vals' hv _ => ⟨trivial, hv.trans (if_neg hb1731).symm⟩)
     have hl1732 := hb1731
     try simp only [zk] at hl1732
     exact zb (v := .int .i64 ((j : Nat) : Int)) rfl (fun vals' hv _ => ⟨rfl, hv.trans (if_pos hb1731).symm⟩)
    ·intro k1733 vals w1734 h1737 h1738 hW1736 hA1735
     obtain rfl : k1733 = 0 := Nat.le_antisymm h1738 h1737
     have hS1739 : Sep _ _ _ _ := hW1736
     have e1740 := hA1735 6 (by decide)
     have e1741 : vals 7 = (if (!((X.getD j default).void)) = true then (v367 : Value) else undef) := hA1735 7 (by decide)
     have e1742 : vals 8 = (if (!((X.getD j default).void)) = true then (.int .i64 ((j : Nat) : Int) : Value) else undef) := hA1735 8 (by decide)
     refine zC rfl rfl e1740 (fun hb1743 => ?_) (fun hb1743 => fun vals' hv _ => ⟨trivial, hv.trans (if_neg hb1743).symm⟩)
     have hl1744 := hb1743
     try simp only [zk] at hl1744
     have hi1745 : j < X.length := (by first | omega | (simp only [lens]; omega))
     exact zl (k := 13) (i := j) Tryd.underlying66 Tryd.sizeOf62 (show _ = (v367 : Value) from (Eq.trans e1741 (if_pos hb1743))) hrd378.sl (show _ = (.int .i64 ((j : Nat) : Int) : Value) from (Eq.trans e1742 (if_pos hb1743))) hi1745 (fun vals' hv _ => ⟨rfl, hv.trans (if_pos hb1743).symm⟩)
    ·intro k1746 vals w1747 h1750 h1751 hW1749 hA1748
     have e1752 := hA1748 6 (by decide)
     have e1753 : vals 9 = (if (!((X.getD j default).void)) = true then (.pointer (some ⟨sb v367, so v367 + j * 13, none⟩) : Value) else undef) := hA1748 9 (by decide)
     refine zC rfl rfl e1752 (fun hb1754 => ?_) (fun hb1754 => fun vals' hv _ => ⟨trivial, hv.trans (if_neg hb1754).symm⟩)
     have hl1755 := hb1754
     try simp only [zk] at hl1755
     exact Xe (show _ = (.pointer (some ⟨sb v367, so v367 + j * 13, none⟩) : Value) from (Eq.trans e1753 (if_pos hb1754))) (fun vals' hv _ => ⟨rfl, hv.trans (if_pos hb1754).symm⟩)
    ·intro k1756 vals w1757 h1760 h1761 hW1759 hA1758
     have e1762 := hA1758 6 (by decide)
     have e1763 : vals 10 = (if (!((X.getD j default).void)) = true then (.pointer (some ⟨sb v367, so v367 + j * 13, none⟩) : Value) else undef) := hA1758 10 (by decide)
     refine zC rfl rfl e1762 (fun hb1764 => ?_) (fun hb1764 => fun vals' hv _ => ⟨trivial, hv.trans (if_neg hb1764).symm⟩)
     have hl1765 := hb1764
     try simp only [zk] at hl1765
     exact xB (show _ = (.pointer (some ⟨sb v367, so v367 + j * 13, none⟩) : Value) from (Eq.trans e1763 (if_pos hb1764))) (fun vals' hv _ => ⟨rfl, hv.trans (if_pos hb1764).symm⟩)
    ·intro k1766 vals w1767 h1770 h1771 hW1769 hA1768
     obtain rfl : k1766 = 0 := Nat.le_antisymm h1771 h1770
     have hS1772 : Sep _ _ _ _ := hW1769
     have e1773 := hA1768 6 (by decide)
     have e1774 : vals 11 = (if (!((X.getD j default).void)) = true then (.pointer (some ⟨sb v367, so v367 + j * 13 + 4, none⟩) : Value) else undef) := hA1768 11 (by decide)
     refine zC rfl rfl e1773 (fun hb1775 => ?_) (fun hb1775 => fun vals' hv _ => ⟨trivial, hv.trans (if_neg hb1775).symm⟩)
     have hl1776 := hb1775
     try simp only [zk] at hl1776
     have hi1778 : j < X.length := (by first | omega | (simp only [lens]; omega))
     obtain ⟨hce1777, hde1777_0, hoke1777⟩ := hrd378.ent hi1778
     rw [← zm default hi1778] at hce1777 hde1777_0 hoke1777
     have hsm1779 : ((X.getD j default).ev.deps).length * 8 ≤ 140737488355328 := hde1777_0.small
     have hcw1780 := hS1772.cells hce1777 (hrd378.foot (ne_of_lt hi1778))
     exact zf (v := .int .i64 ((X.getD j default).ev.typ)) Tryd.isAgg3 (show _ = (.pointer (some ⟨sb v367, so v367 + j * 13 + 4, none⟩) : Value) from (Eq.trans e1774 (if_pos hb1775))) (hcw1780.get (j := 4) rfl) (fun vals' hv _ => ⟨rfl, hv.trans (if_pos hb1775).symm⟩)
    ·intro k1781 vals w1782 h1785 h1786 hW1784 hA1783
     have e1787 := hA1783 6 (by decide)
     refine zC rfl rfl e1787 (fun hb1788 => ?_) (fun hb1788 => fun vals' hv _ => ⟨trivial, hv.trans (if_neg hb1788).symm⟩)
     have hl1789 := hb1788
     try simp only [zk] at hl1789
     exact zb (v := v15) rfl (fun vals' hv _ => ⟨rfl, hv.trans (if_pos hb1788).symm⟩)
    ·intro k1790 vals w1791 h1794 h1795 hW1793 hA1792
     have e1796 := hA1792 6 (by decide)
     refine zC rfl rfl e1796 (fun hb1797 => ?_) (fun hb1797 => fun vals' hv _ => ⟨trivial, hv.trans (if_neg hb1797).symm⟩)
     have hl1798 := hb1797
     try simp only [zk] at hl1798
     exact zb (v := .int .i64 ((k : Nat) : Int)) rfl (fun vals' hv _ => ⟨rfl, hv.trans (if_pos hb1797).symm⟩)
    ·intro k1799 vals w1800 h1803 h1804 hW1802 hA1801
     obtain rfl : k1799 = 0 := Nat.le_antisymm h1804 h1803
     have hS1805 : Sep _ _ _ _ := hW1802
     have e1806 := hA1801 6 (by decide)
     have e1807 : vals 13 = (if (!((X.getD j default).void)) = true then (v15 : Value) else undef) := hA1801 13 (by decide)
     have e1808 : vals 14 = (if (!((X.getD j default).void)) = true then (.int .i64 ((k : Nat) : Int) : Value) else undef) := hA1801 14 (by decide)
     refine zC rfl rfl e1806 (fun hb1809 => ?_) (fun hb1809 => fun vals' hv _ => ⟨trivial, hv.trans (if_neg hb1809).symm⟩)
     have hl1810 := hb1809
     try simp only [zk] at hl1810
     have hi1811 : k < l216.length := (by first | omega | (simp only [lens]; omega))
     exact zl (k := 10) (i := k) Tryd.underlying47 Tryd.sizeOf59 (show _ = (v15 : Value) from (Eq.trans e1807 (if_pos hb1809))) (RdS.base hrd28 hB375).sl (show _ = (.int .i64 ((k : Nat) : Int) : Value) from (Eq.trans e1808 (if_pos hb1809))) hi1811 (fun vals' hv _ => ⟨rfl, hv.trans (if_pos hb1809).symm⟩)
    ·intro k1812 vals w1813 h1816 h1817 hW1815 hA1814
     have e1818 := hA1814 6 (by decide)
     have e1819 : vals 15 = (if (!((X.getD j default).void)) = true then (.pointer (some ⟨sb v15, so v15 + k * 10, none⟩) : Value) else undef) := hA1814 15 (by decide)
     refine zC rfl rfl e1818 (fun hb1820 => ?_) (fun hb1820 => fun vals' hv _ => ⟨trivial, hv.trans (if_neg hb1820).symm⟩)
     have hl1821 := hb1820
     try simp only [zk] at hl1821
     exact xB (show _ = (.pointer (some ⟨sb v15, so v15 + k * 10, none⟩) : Value) from (Eq.trans e1819 (if_pos hb1820))) (fun vals' hv _ => ⟨rfl, hv.trans (if_pos hb1820).symm⟩)
    ·intro k1822 vals w1823 h1826 h1827 hW1825 hA1824
     obtain rfl : k1822 = 0 := Nat.le_antisymm h1827 h1826
     have hS1828 : Sep _ _ _ _ := hW1825
     have e1829 := hA1824 6 (by decide)
     have e1830 : vals 16 = (if (!((X.getD j default).void)) = true then (.pointer (some ⟨sb v15, so v15 + k * 10 + 4, none⟩) : Value) else undef) := hA1824 16 (by decide)
     refine zC rfl rfl e1829 (fun hb1831 => ?_) (fun hb1831 => fun vals' hv _ => ⟨trivial, hv.trans (if_neg hb1831).symm⟩)
     have hl1832 := hb1831
     try simp only [zk] at hl1832
     have hi1834 : k < l216.length := (by first | omega | (simp only [lens]; omega))
     obtain ⟨hce1833, hde1833_0, hoke1833⟩ := (RdS.base hrd28 hB375).ev hi1834
     rw [← zm default hi1834] at hce1833 hde1833_0 hoke1833
     have hsm1835 : ((l216.getD k default).deps).length * 8 ≤ 140737488355328 := hde1833_0.small
     have hcw1836 := hS1828.cells hce1833 ((RdS.base hrd28 hB375).foot (ne_of_lt hi1834))
     exact zf (v := .int .i64 ((l216.getD k default).typ)) Tryd.isAgg3 (show _ = (.pointer (some ⟨sb v15, so v15 + k * 10 + 4, none⟩) : Value) from (Eq.trans e1830 (if_pos hb1831))) (hcw1836.get (j := 4) rfl) (fun vals' hv _ => ⟨rfl, hv.trans (if_pos hb1831).symm⟩)
    ·intro k1837 vals w1838 h1841 h1842 hW1840 hA1839
     obtain rfl : k1837 = 0 := Nat.le_antisymm h1842 h1841
     have hS1843 : Sep _ _ _ _ := hW1840
     have e1844 := hA1839 6 (by decide)
     have e1845 : vals 12 = (if (!((X.getD j default).void)) = true then (.int .i64 ((X.getD j default).ev.typ) : Value) else undef) := hA1839 12 (by decide)
     have e1846 : vals 17 = (if (!((X.getD j default).void)) = true then (.int .i64 ((l216.getD k default).typ) : Value) else undef) := hA1839 17 (by decide)
     refine zC rfl rfl e1844 (fun hb1847 => ?_) (fun hb1847 => fun vals' hv _ => ⟨trivial, hv.trans (if_neg hb1847).symm⟩)
     have hl1848 := hb1847
     try simp only [zk] at hl1848
     exact ym (k := .i64) (a := (X.getD j default).ev.typ) (b := (l216.getD k default).typ) (show _ = (.int .i64 ((X.getD j default).ev.typ) : Value) from (Eq.trans e1845 (if_pos hb1847))) (show _ = (.int .i64 ((l216.getD k default).typ) : Value) from (Eq.trans e1846 (if_pos hb1847))) (fun vals' hv _ => ⟨rfl, hv.trans (if_pos hb1847).symm⟩)
    ·intro k1849 vals w1850 h1853 h1854 hW1852 hA1851
     have e1855 := hA1851 6 (by decide)
     have e1856 : vals 18 = (if (!((X.getD j default).void)) = true then (.bool (decide (((X.getD j default).ev.typ) = ((l216.getD k default).typ))) : Value) else undef) := hA1851 18 (by decide)
     refine obl rfl ?_
     exact zF (b := !((X.getD j default).void)) (b' := decide (((X.getD j default).ev.typ) = ((l216.getD k default).typ))) e1855 (fun hbp => (show _ = (.bool (decide (((X.getD j default).ev.typ) = ((l216.getD k default).typ))) : Value) from (Eq.trans e1856 (if_pos hbp)))) (fun vals' hv _ => ⟨rfl, hv⟩)
    ·intro k1857 vals w1858 h1861 h1862 hW1860 hA1859
     have e1863 := hA1859 19 (by decide)
     refine obl rfl ?_
     exact zb (v := .bool ((!((X.getD j default).void)) && (decide (((X.getD j default).ev.typ) = ((l216.getD k default).typ))))) e1863 (fun vals' hv _ => ⟨rfl, hv⟩)
    ·intro k1864 vals w1865 h1868 h1869 hW1867 hA1866
     have e1870 := hA1866 20 (by decide)
     refine zC rfl rfl e1870 (fun hb1871 => ?_) (fun hb1871 => fun vals' hv _ => ⟨trivial, hv.trans (if_neg hb1871).symm⟩)
     have hl1872 := hb1871
     try simp only [zk] at hl1872
     exact zb (v := v367) rfl (fun vals' hv _ => ⟨rfl, hv.trans (if_pos hb1871).symm⟩)
    ·intro k1873 vals w1874 h1877 h1878 hW1876 hA1875
     have e1879 := hA1875 20 (by decide)
     refine zC rfl rfl e1879 (fun hb1880 => ?_) (fun hb1880 => fun vals' hv _ => ⟨trivial, hv.trans (if_neg hb1880).symm⟩)
     have hl1881 := hb1880
     try simp only [zk] at hl1881
     exact zb (v := .int .i64 ((j : Nat) : Int)) rfl (fun vals' hv _ => ⟨rfl, hv.trans (if_pos hb1880).symm⟩)
    ·intro k1882 vals w1883 h1886 h1887 hW1885 hA1884
     obtain rfl : k1882 = 0 := Nat.le_antisymm h1887 h1886
     have hS1888 : Sep _ _ _ _ := hW1885
     have e1889 := hA1884 20 (by decide)
     have e1890 : vals 21 = (if ((!((X.getD j default).void)) && (decide (((X.getD j default).ev.typ) = ((l216.getD k default).typ)))) = true then (v367 : Value) else undef) := hA1884 21 (by decide)
     have e1891 : vals 22 = (if ((!((X.getD j default).void)) && (decide (((X.getD j default).ev.typ) = ((l216.getD k default).typ)))) = true then (.int .i64 ((j : Nat) : Int) : Value) else undef) := hA1884 22 (by decide)
     refine zC rfl rfl e1889 (fun hb1892 => ?_) (fun hb1892 => fun vals' hv _ => ⟨trivial, hv.trans (if_neg hb1892).symm⟩)
     have hl1893 := hb1892
     try simp only [zk] at hl1893
     have hi1894 : j < X.length := (by first | omega | (simp only [lens]; omega))
     exact zl (k := 13) (i := j) Tryd.underlying66 Tryd.sizeOf62 (show _ = (v367 : Value) from (Eq.trans e1890 (if_pos hb1892))) hrd378.sl (show _ = (.int .i64 ((j : Nat) : Int) : Value) from (Eq.trans e1891 (if_pos hb1892))) hi1894 (fun vals' hv _ => ⟨rfl, hv.trans (if_pos hb1892).symm⟩)
    ·intro k1895 vals w1896 h1899 h1900 hW1898 hA1897
     have e1901 := hA1897 20 (by decide)
     have e1902 : vals 23 = (if ((!((X.getD j default).void)) && (decide (((X.getD j default).ev.typ) = ((l216.getD k default).typ)))) = true then (.pointer (some ⟨sb v367, so v367 + j * 13, none⟩) : Value) else undef) := hA1897 23 (by decide)
     refine zC rfl rfl e1901 (fun hb1903 => ?_) (fun hb1903 => fun vals' hv _ => ⟨trivial, hv.trans (if_neg hb1903).symm⟩)
     have hl1904 := hb1903
     try simp only [zk] at hl1904
     exact Xe (show _ = (.pointer (some ⟨sb v367, so v367 + j * 13, none⟩) : Value) from (Eq.trans e1902 (if_pos hb1903))) (fun vals' hv _ => ⟨rfl, hv.trans (if_pos hb1903).symm⟩)
    ·intro k1905 vals w1906 h1909 h1910 hW1908 hA1907
     have e1911 := hA1907 20 (by decide)
     have e1912 : vals 24 = (if ((!((X.getD j default).void)) && (decide (((X.getD j default).ev.typ) = ((l216.getD k default).typ)))) = true then (.pointer (some ⟨sb v367, so v367 + j * 13, none⟩) : Value) else undef) := hA1907 24 (by decide)
     refine zC rfl rfl e1911 (fun hb1913 => ?_) (fun hb1913 => fun vals' hv _ => ⟨trivial, hv.trans (if_neg hb1913).symm⟩)
     have hl1914 := hb1913
     try simp only [zk] at hl1914
     exact Yy (show _ = (.pointer (some ⟨sb v367, so v367 + j * 13, none⟩) : Value) from (Eq.trans e1912 (if_pos hb1913))) (fun vals' hv _ => ⟨rfl, hv.trans (if_pos hb1913).symm⟩)
    ·intro k1915 vals w1916 h1919 h1920 hW1918 hA1917
     obtain rfl : k1915 = 0 := Nat.le_antisymm h1920 h1919
     have hS1921 : Sep _ _ _ _ := hW1918
     have e1922 := hA1917 20 (by decide)
     have e1923 : vals 25 = (if ((!((X.getD j default).void)) && (decide (((X.getD j default).ev.typ) = ((l216.getD k default).typ)))) = true then (.pointer (some ⟨sb v367, so v367 + j * 13 + 5, none⟩) : Value) else undef) := hA1917 25 (by decide)
     refine zC rfl rfl e1922 (fun hb1924 => ?_) (fun hb1924 => fun vals' hv _ => ⟨trivial, hv.trans (if_neg hb1924).symm⟩)
     have hl1925 := hb1924
     try simp only [zk] at hl1925
     have hi1927 : j < X.length := (by first | omega | (simp only [lens]; omega))
     obtain ⟨hce1926, hde1926_0, hoke1926⟩ := hrd378.ent hi1927
     rw [← zm default hi1927] at hce1926 hde1926_0 hoke1926
     have hsm1928 : ((X.getD j default).ev.deps).length * 8 ≤ 140737488355328 := hde1926_0.small
     have hcw1929 := hS1921.cells hce1926 (hrd378.foot (ne_of_lt hi1927))
     exact zf (v := .int .i64 ((X.getD j default).ev.agg)) Tryd.isAgg3 (show _ = (.pointer (some ⟨sb v367, so v367 + j * 13 + 5, none⟩) : Value) from (Eq.trans e1923 (if_pos hb1924))) (hcw1929.get (j := 5) rfl) (fun vals' hv _ => ⟨rfl, hv.trans (if_pos hb1924).symm⟩)
    ·intro k1930 vals w1931 h1934 h1935 hW1933 hA1932
     have e1936 := hA1932 20 (by decide)
     refine zC rfl rfl e1936 (fun hb1937 => ?_) (fun hb1937 => fun vals' hv _ => ⟨trivial, hv.trans (if_neg hb1937).symm⟩)
     have hl1938 := hb1937
     try simp only [zk] at hl1938
     exact zb (v := v15) rfl (fun vals' hv _ => ⟨rfl, hv.trans (if_pos hb1937).symm⟩)
    ·intro k1939 vals w1940 h1943 h1944 hW1942 hA1941
     have e1945 := hA1941 20 (by decide)
     refine zC rfl rfl e1945 (fun hb1946 => ?_) (fun hb1946 => fun vals' hv _ => ⟨trivial, hv.trans (if_neg hb1946).symm⟩)
     have hl1947 := hb1946
     try simp only [zk] at hl1947
     exact zb (v := .int .i64 ((k : Nat) : Int)) rfl (fun vals' hv _ => ⟨rfl, hv.trans (if_pos hb1946).symm⟩)
    ·intro k1948 vals w1949 h1952 h1953 hW1951 hA1950
     obtain rfl : k1948 = 0 := Nat.le_antisymm h1953 h1952
     have hS1954 : Sep _ _ _ _ := hW1951
     have e1955 := hA1950 20 (by decide)
     have e1956 : vals 27 = (if ((!((X.getD j default).void)) && (decide (((X.getD j default).ev.typ) = ((l216.getD k default).typ)))) = true then (v15 : Value) else undef) := hA1950 27 (by decide)
     have e1957 : vals 28 = (if ((!((X.getD j default).void)) && (decide (((X.getD j default).ev.typ) = ((l216.getD k default).typ)))) = true then (.int .i64 ((k : Nat) : Int) : Value) else undef) := hA1950 28 (by decide)
     refine zC rfl rfl e1955 (fun hb1958 => ?_) (fun hb1958 => fun vals' hv _ => ⟨trivial, hv.trans (if_neg hb1958).symm⟩)
     have hl1959 := hb1958
     try simp only [zk] at hl1959
     have hi1960 : k < l216.length := (by first | omega | (simp only [lens]; omega))
     exact zl (k := 10) (i := k) Tryd.underlying47 Tryd.sizeOf59 (show _ = (v15 : Value) from (Eq.trans e1956 (if_pos hb1958))) (RdS.base hrd28 hB375).sl (show _ = (.int .i64 ((k : Nat) : Int) : Value) from (Eq.trans e1957 (if_pos hb1958))) hi1960 (fun vals' hv _ => ⟨rfl, hv.trans (if_pos hb1958).symm⟩)
    ·intro k1961 vals w1962 h1965 h1966 hW1964 hA1963
     have e1967 := hA1963 20 (by decide)
     have e1968 : vals 29 = (if ((!((X.getD j default).void)) && (decide (((X.getD j default).ev.typ) = ((l216.getD k default).typ)))) = true then (.pointer (some ⟨sb v15, so v15 + k * 10, none⟩) : Value) else undef) := hA1963 29 (by decide)
     refine zC rfl rfl e1967 (fun hb1969 => ?_) (fun hb1969 => fun vals' hv _ => ⟨trivial, hv.trans (if_neg hb1969).symm⟩)
     have hl1970 := hb1969
     try simp only [zk] at hl1970
     exact Yy (show _ = (.pointer (some ⟨sb v15, so v15 + k * 10, none⟩) : Value) from (Eq.trans e1968 (if_pos hb1969))) (fun vals' hv _ => ⟨rfl, hv.trans (if_pos hb1969).symm⟩)
    ·intro k1971 vals w1972 h1975 h1976 hW1974 hA1973
     obtain rfl : k1971 = 0 := Nat.le_antisymm h1976 h1975
     have hS1977 : Sep _ _ _ _ := hW1974
     have e1978 := hA1973 20 (by decide)
     have e1979 : vals 30 = (if ((!((X.getD j default).void)) && (decide (((X.getD j default).ev.typ) = ((l216.getD k default).typ)))) = true then (.pointer (some ⟨sb v15, so v15 + k * 10 + 5, none⟩) : Value) else undef) := hA1973 30 (by decide)
     refine zC rfl rfl e1978 (fun hb1980 => ?_) (fun hb1980 => fun vals' hv _ => ⟨trivial, hv.trans (if_neg hb1980).symm⟩)
     have hl1981 := hb1980
     try simp only [zk] at hl1981
     have hi1983 : k < l216.length := (by first | omega | (simp only [lens]; omega))
     obtain ⟨hce1982, hde1982_0, hoke1982⟩ := (RdS.base hrd28 hB375).ev hi1983
     rw [← zm default hi1983] at hce1982 hde1982_0 hoke1982
     have hsm1984 : ((l216.getD k default).deps).length * 8 ≤ 140737488355328 := hde1982_0.small
     have hcw1985 := hS1977.cells hce1982 ((RdS.base hrd28 hB375).foot (ne_of_lt hi1983))
     exact zf (v := .int .i64 ((l216.getD k default).agg)) Tryd.isAgg3 (show _ = (.pointer (some ⟨sb v15, so v15 + k * 10 + 5, none⟩) : Value) from (Eq.trans e1979 (if_pos hb1980))) (hcw1985.get (j := 5) rfl) (fun vals' hv _ => ⟨rfl, hv.trans (if_pos hb1980).symm⟩)
    ·intro k1986 vals w1987 h1990 h1991 hW1989 hA1988
     obtain rfl : k1986 = 0 := Nat.le_antisymm h1991 h1990
     have hS1992 : Sep _ _ _ _ := hW1989
     have e1993 := hA1988 20 (by decide)
     have e1994 : vals 26 = (if ((!((X.getD j default).void)) && (decide (((X.getD j default).ev.typ) = ((l216.getD k default).typ)))) = true then (.int .i64 ((X.getD j default).ev.agg) : Value) else undef) := hA1988 26 (by decide)
     have e1995 : vals 31 = (if ((!((X.getD j default).void)) && (decide (((X.getD j default).ev.typ) = ((l216.getD k default).typ)))) = true then (.int .i64 ((l216.getD k default).agg) : Value) else undef) := hA1988 31 (by decide)
     refine zC rfl rfl e1993 (fun hb1996 => ?_) (fun hb1996 => fun vals' hv _ => ⟨trivial, hv.trans (if_neg hb1996).symm⟩)
     have hl1997 := hb1996
     try simp only [zk] at hl1997
     exact ym (k := .i64) (a := (X.getD j default).ev.agg) (b := (l216.getD k default).agg) (show _ = (.int .i64 ((X.getD j default).ev.agg) : Value) from (Eq.trans e1994 (if_pos hb1996))) (show _ = (.int .i64 ((l216.getD k default).agg) : Value) from (Eq.trans e1995 (if_pos hb1996))) (fun vals' hv _ => ⟨rfl, hv.trans (if_pos hb1996).symm⟩)
    ·intro k1998 vals w1999 h2002 h2003 hW2001 hA2000
     have e2004 := hA2000 20 (by decide)
     have e2005 : vals 32 = (if ((!((X.getD j default).void)) && (decide (((X.getD j default).ev.typ) = ((l216.getD k default).typ)))) = true then (.bool (decide (((X.getD j default).ev.agg) = ((l216.getD k default).agg))) : Value) else undef) := hA2000 32 (by decide)
     refine obl rfl ?_
     exact zF (b := (!((X.getD j default).void)) && (decide (((X.getD j default).ev.typ) = ((l216.getD k default).typ)))) (b' := decide (((X.getD j default).ev.agg) = ((l216.getD k default).agg))) e2004 (fun hbp => (show _ = (.bool (decide (((X.getD j default).ev.agg) = ((l216.getD k default).agg))) : Value) from (Eq.trans e2005 (if_pos hbp)))) (fun vals' hv _ => ⟨rfl, hv⟩)
    intro vals w2006 hW2007 hA2008
    have hS2009 : Sep _ _ _ _ := hW2007
    have e2010 := hA2008 33 (by decide)
    refine yh (kv := [(2, v15), (3, .pointer (some ⟨b2, 0, none⟩)), (7, .pointer (some ⟨b29, 0, none⟩)), (8, .int .i64 ((k : Nat) : Int)), (9, .pointer (some ⟨b164, 0, none⟩)), (10, .bool ((zi d X (((l216.getD k default).typ), ((l216.getD k default).agg))).isSome)), (12, v367), (13, .int .i64 ((j : Nat) : Int)), (11, .int .i64 ((cn : Nat) : Int)), (60, .int .i64 ((j : Nat) : Int)), (61, v367), (62, .int .i64 ((X.length : Nat) : Int)), (63, .bool true), (99, .bool (((!((X.getD j default).void)) && (decide (((X.getD j default).ev.typ) = ((l216.getD k default).typ)))) && (decide (((X.getD j default).ev.agg) = ((l216.getD k default).agg)))))]) ⟨rfl, rfl, rfl, rfl, rfl, rfl, rfl, rfl, rfl, rfl, rfl, rfl, rfl, (by exact e2010), trivial⟩ (fun ρw2006 => ?_)
    refine zg ?_
    cases hc2011 : ((!((X.getD j default).void)) && (decide (((X.getD j default).ev.typ) = ((l216.getD k default).typ)))) && (decide (((X.getD j default).ev.agg) = ((l216.getD k default).agg)))
    ·skip
     have hc2011r := hc2011
     try simp only [zk] at hc2011
     refine zo rfl ?_
     refine zw ?_
     refine za (by kernel_rfl) (fun _ => ?_)
     refine st (zb (v := .int .i64 ((j : Nat) : Int)) rfl ?_)
     have hr2012 : InR ((j + 1 : Nat) : Int) := by first | omega | (simp only [lens]; omega)
     refine st (ye (r := ((j + 1 : Nat) : Int)) (k := .i64) (a := ((j : Nat) : Int)) (b := 1) rfl rfl (by rw [show (((j : Nat) : Int) + 1 : Int) = ((j + 1 : Nat) : Int) by first | omega | (simp only [lens]; omega)]; exact zS hr2012) ?_)
     refine st (zd (v := .int .i64 ((j + 1 : Nat) : Int)) rfl ?_)
     refine zg ?_
     exact ⟨_, by omega, j + 1, cn, _, rfl, zq ⟨rfl, rfl, rfl, rfl, rfl, rfl, rfl, rfl, rfl, trivial⟩, by omega, (by rw [ver_f (by omega) ((onL_raw.trans hc2011r)), hcn]), (by omega), hS2009⟩
    ·skip
     have hc2011r := hc2011
     try simp only [zk] at hc2011
     refine zp rfl ?_
     refine za (by kernel_rfl) (fun _ => ?_)
     refine st (zb (v := .int .i64 ((cn : Nat) : Int)) rfl ?_)
     have hr2013 : InR ((cn + 1 : Nat) : Int) := by first | omega | (simp only [lens]; omega)
     refine st (ye (r := ((cn + 1 : Nat) : Int)) (k := .i64) (a := ((cn : Nat) : Int)) (b := 1) rfl rfl (by rw [show (((cn : Nat) : Int) + 1 : Int) = ((cn + 1 : Nat) : Int) by first | omega | (simp only [lens]; omega)]; exact zS hr2013) ?_)
     refine st (zd (v := .int .i64 ((cn + 1 : Nat) : Int)) rfl ?_)
     refine zg ?_
     refine za (by kernel_rfl) (fun _ => ?_)
     refine st (zb (v := .int .i64 ((j : Nat) : Int)) rfl ?_)
     have hr2014 : InR ((j + 1 : Nat) : Int) := by first | omega | (simp only [lens]; omega)
     refine st (ye (r := ((j + 1 : Nat) : Int)) (k := .i64) (a := ((j : Nat) : Int)) (b := 1) rfl rfl (by rw [show (((j : Nat) : Int) + 1 : Int) = ((j + 1 : Nat) : Int) by first | omega | (simp only [lens]; omega)]; exact zS hr2014) ?_)
     refine st (zd (v := .int .i64 ((j + 1 : Nat) : Int)) rfl ?_)
     refine zg ?_
     exact ⟨_, by omega, j + 1, cn + 1, _, rfl, zq ⟨rfl, rfl, rfl, rfl, rfl, rfl, rfl, rfl, rfl, trivial⟩, by omega, (by rw [ver_t (by omega) ((onL_raw.trans hc2011r)), hcn]), (by omega), hS2009⟩
 ·skip
  have hc9r := hc9
  try simp only [zk] at hc9
  refine zp rfl ?_
  refine ze ?_
  refine za (by kernel_rfl) (fun _ => ?_)
  refine st (zu (f := 21) (vals := []) (cap := []) rfl rfl Tryd.call21 (YV  hKN hS8) ?_)
  rintro _ w2015 ⟨rfl, hS2016⟩
  refine st (zd (v := .bool true) rfl ?_)
  refine zg ?_
  refine zv ?_
  refine ya Tryd.results6 (show _ = (.bool true : Value) from rfl) ?_
  have hS2017 : Sep G W Rs w2015 := hS2016.sel 1 [] (Nat.le_add_left _ _) rfl rfl
  refine ⟨rfl, hS2017⟩

end Go.Proofs.YtlblilbmpdejgaaDoor
/- Steps of the proofs of this seat: part F18. -/
set_option maxRecDepth 8000
set_option maxHeartbeats 4000000
namespace Go.Proofs.YtlblilbmpdejgaaDoor
open Go.Proofs Go.RowKit

theorem XJ {w : World} {d : Dcl} {dd0 dd1 : Value} (h0 : RdS w (yR w) dd0 d.types) (h1 : RdS w (yR w) dd1 d.projs) (od : d.Ok) {n : Int} (hn : InR n) {vl : Value} {l : List Ev} (hl : RdS w (yR w) vl l) (hK : RdS w (yR w) (.slice (some ⟨0, 0, none⟩) 6 6) kindsL) : Ret Tryd.prog 6 [.agg (d.cells dd0 dd1).toArray, .int .i64 n, vl] w (fun r w' => r = .bool true ∧ Ext w w') :=
  Ret.mono (XH h0 h1 od hn hl hK (Sep.start w)) (fun r w' h => ⟨h.1, h.2.fin⟩)
end Go.Proofs.YtlblilbmpdejgaaDoor
