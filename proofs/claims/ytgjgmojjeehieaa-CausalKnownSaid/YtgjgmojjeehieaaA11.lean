/- Steps of the proofs of this seat: part A11. -/
import Derived.Test.YtgjgmojjeehieaaA10
set_option linter.unusedSimpArgs false
set_option linter.unusedVariables false
set_option maxRecDepth 8000
set_option maxHeartbeats 4000000
namespace Go.Proofs.Ytgjgmojjeehieaa
open Go.Proofs Go.RowKit

def someRf (f : Func) : Code := cB (cB (cA (cB (cB (bodyOf f)))))
theorem el22 : Elem Try.prog 22 36 10 96 := ⟨Try.underlying22, _, _, rfl, rfl, rfl, rfl, rfl⟩
theorem some_body {G : Nat → Prop} {W w : World} {Fr : List HP} {l b6 bis bo : Nat} {fis : FuncId} {caps : List Value} {p : Ev → Bool} (hfis : ∀ args w, (callFunc fis args).run Try.prog w = .ok (.enter fis args) w) (hIs : ∀ {w : World} {Rs : List HP} {x : Ev} {dx0 : Value} (hdx0 : RdS W G dx0 x.deps) (ox : x.Ok), Sep G W Rs w → Ret Try.prog fis (.agg (x.cells dx0).toArray :: caps) w (fun r w' => r = (.bool (p x) : Value) ∧ Sep G W Rs w')) {x : Ev} {vd : Value} (hd : RdS W G vd x.deps) (ok : x.Ok) {vo : Value} {M : List Ev} (hML : M.length ≤ 1000000) {ρ : Env} {K : Env → World → Prop} (hk : ∀ σ' w' vo' M', M' = M ++ (if p x = true then [x] else []) → Sep G W (Blk bis #[.func (.func fis) #[] caps.toArray] 70 :: Blk bo #[vo'] 22 :: RowE (α := Ev) own 36 vo' M' :: Fr) w' → K σ' w') (hS0 : Sep G W (Blk b6 (x.cells vd).toArray 36 :: Blk bis #[.func (.func fis) #[] caps.toArray] 70 :: Blk bo #[vo] 22 :: RowE (α := Ev) own 36 vo M :: Fr) w) : WPX (some l) [] Try.prog 24 (cB (someRf Try.f53)) (onlyN K) (setAll ρ [(3, .pointer (some ⟨bis, 0, none⟩)), (5, .pointer (some ⟨bo, 0, none⟩)), (6, .pointer (some ⟨b6, 0, none⟩))]) w := by
 have hds : x.deps.length * 8 ≤ 140737488355328 := hd.small
 have hr1 := hS0.row (i := 3) rfl
 have hr1s : M.length * 96 ≤ 140737488355328 := hr1.2
 refine WPX_block ?_
 refine WPX_seq ?_
 refine WPX_region0 (by kernel_rfl) (fun _ => ?_)
 refine st (ov_load1 (v := .func (.func fis) #[] caps.toArray) Try.isAgg70 rfl (blk_cellL (hS0.blk (i := 1) rfl) rfl) ?_)
 refine st (ov_loadk (k := 10) Try.isAgg36 Try.sizeOf36 rfl rfl (CellsAt.all (hS0.blk (i := 0) rfl)) ?_)
 refine st (ov_call (f := fis) (vals := [.agg (x.cells vd).toArray]) (cap := caps) (show _ = (.func (.func fis) #[] caps.toArray : Value) from rfl) rfl hfis (hIs hd ok hS0) ?_)
 rintro _ w2 ⟨rfl, hS3⟩
 refine st_nil ?_
 cases hc4 : p x
 ·skip
  refine WPX_cond_f rfl ?_
  refine WPX_skip ?_
  have hS5 : Sep G W ((Blk bis #[.func (.func fis) #[] caps.toArray] 70) :: (Blk bo #[vo] 22) :: (RowE (α := Ev) own 36 vo M) :: Fr) w2 := hS3.sel 4 [1, 2, 3] (Nat.le_add_left _ _) rfl rfl
  exact hk _ _ _ _ (by simp only [*, Bool.false_eq_true, if_false, List.append_nil]) hS5
 ·skip
  refine WPX_cond_t rfl ?_
  refine WPX_draw4 (WF [fun vals wq => Sep G W ((Blk b6 (x.cells vd).toArray 36) :: (Blk bis #[.func (.func fis) #[] caps.toArray] 70) :: (Blk bo #[vo] 22) :: (RowE (α := Ev) own 36 vo M) :: Fr) wq, fun vals wq => ∃ (v28 : Value), (vals 2 = (.agg (x.cells v28).toArray : Value)) ∧ Sep G W ((RowE (α := Int) own 3 v28 x.deps) :: (Blk b6 (x.cells vd).toArray 36) :: (Blk bis #[.func (.func fis) #[] caps.toArray] 70) :: (Blk bo #[vo] 22) :: (RowE (α := Ev) own 36 vo M) :: Fr) wq, fun vals wq => ∃ (v28 : Value) (b41 : Nat), (vals 2 = (.agg (x.cells v28).toArray : Value)) ∧ (vals 3 = ((.slice (some ⟨b41, 0, none⟩) 1 1) : Value)) ∧ Sep G W ((Blk b41 (x.cells v28).toArray 36) :: (RowE (α := Int) own 3 v28 x.deps) :: (Blk b6 (x.cells vd).toArray 36) :: (Blk bis #[.func (.func fis) #[] caps.toArray] 70) :: (Blk bo #[vo] 22) :: (RowE (α := Ev) own 36 vo M) :: Fr) wq, fun vals wq => ∃ (v28 : Value) (b41 : Nat) (v54 : Value), (vals 2 = (.agg (x.cells v28).toArray : Value)) ∧ (vals 3 = ((.slice (some ⟨b41, 0, none⟩) 1 1) : Value)) ∧ (vals 4 = (v54 : Value)) ∧ Sep G W ((RowE (α := Ev) own 36 v54 (M ++ [x])) :: (Blk b6 (x.cells vd).toArray 36) :: (Blk bis #[.func (.func fis) #[] caps.toArray] 70) :: (Blk bo #[vo] 22) :: Fr) wq, fun vals wq => ∃ (v28 : Value) (b41 : Nat) (v54 : Value), (vals 2 = (.agg (x.cells v28).toArray : Value)) ∧ (vals 3 = ((.slice (some ⟨b41, 0, none⟩) 1 1) : Value)) ∧ (vals 4 = (v54 : Value)) ∧ Sep G W ((RowE (α := Ev) own 36 v54 (M ++ [x])) :: (Blk b6 (x.cells vd).toArray 36) :: (Blk bis #[.func (.func fis) #[] caps.toArray] 70) :: (Blk bo #[v54] 22) :: Fr) wq]) (AF [Vl 0 (vo), Vl 1 (.agg (x.cells vd).toArray), fun _ => True, fun _ => True, fun _ => True, fun _ => True]) [[], [], [1], [1, 2], [0, 1, 2, 3], [0, 1, 2, 3, 4]] [2, 3, 4, 5] [(0, 2), (0, 0), (0, 0), (1, 1), (2, 2), (3, 3)] (by kernel_rfl) (by kernel_rfl) (by kernel_rfl) rfl (by kernel_rfl) (by kernel_rfl) (fun _ h1 h2 h3 h4 _ => hS3.same h1 h2 h3 h4) ?_ (AF_loc ⟨dA, dA, dT, dT, dT, dT, trivial⟩) ⟨?_, ?_, ?_, ?_, ?_, ?_, trivial⟩ ?_
  ·intro k vals vals' w hv h
   have e : ∀ j ∈ ([2, 3, 4, 5] : List Nat), vals' j = vals j := hv
   match k, h with
   | 0, h => exact h
   | 1, h => exact (by simpa only [WF, List.getElem?_cons_zero, List.getElem?_cons_succ, e 2 (by decide)] using h)
   | 2, h => exact (by simpa only [WF, List.getElem?_cons_zero, List.getElem?_cons_succ, e 2 (by decide), e 3 (by decide)] using h)
   | 3, h => exact (by simpa only [WF, List.getElem?_cons_zero, List.getElem?_cons_succ, e 2 (by decide), e 3 (by decide), e 4 (by decide)] using h)
   | 4, h => exact (by simpa only [WF, List.getElem?_cons_zero, List.getElem?_cons_succ, e 2 (by decide), e 3 (by decide), e 4 (by decide)] using h)
   | _ + 5, _ => trivial
  ·intro k71 vals w72 h75 h76 hW74 hA73
   have hkk : k71 = 0 ∨ k71 = 1 ∨ k71 = 2 := by have h1 : 0 ≤ k71 := h75; have h2 : k71 ≤ 2 := h76; omega
   rcases hkk with rfl | rfl | rfl
   ·skip
    have hS77 : Sep G W ((Blk b6 (x.cells vd).toArray 36) :: (Blk bis #[.func (.func fis) #[] caps.toArray] 70) :: (Blk bo #[vo] 22) :: (RowE (α := Ev) own 36 vo M) :: Fr) w72 := hW74
    refine obl rfl ?_
    exact ov_load1 (v := vo) Try.isAgg22 rfl (blk_cellL (hS77.blk (i := 2) rfl) rfl) (fun vals' hv _ => ⟨rfl, hv⟩)
   ·skip
    obtain ⟨v28, he32, hS78⟩ := hW74
    refine obl rfl ?_
    exact ov_load1 (v := vo) Try.isAgg22 rfl (blk_cellL (hS78.blk (i := 3) rfl) rfl) (fun vals' hv _ => ⟨rfl, hv⟩)
   ·skip
    obtain ⟨v28, b41, he32, he44, hS79⟩ := hW74
    refine obl rfl ?_
    exact ov_load1 (v := vo) Try.isAgg22 rfl (blk_cellL (hS79.blk (i := 4) rfl) rfl) (fun vals' hv _ => ⟨rfl, hv⟩)
  ·intro k80 vals w81 h84 h85 hW83 hA82
   obtain rfl : k80 = 0 := Nat.le_antisymm h85 h84
   have hS86 : Sep G W ((Blk b6 (x.cells vd).toArray 36) :: (Blk bis #[.func (.func fis) #[] caps.toArray] 70) :: (Blk bo #[vo] 22) :: (RowE (α := Ev) own 36 vo M) :: Fr) w81 := hW83
   refine obl rfl ?_
   exact ov_loadk (k := 10) Try.isAgg36 Try.sizeOf36 rfl rfl (CellsAt.all (hS86.blk (i := 0) rfl)) (fun vals' hv _ => ⟨rfl, hv⟩)
  ·intro k20 vals w21 h24 h25 hW23 hA22
   obtain rfl : k20 = 0 := Nat.le_antisymm h25 h24
   have hS26 : Sep G W ((Blk b6 (x.cells vd).toArray 36) :: (Blk bis #[.func (.func fis) #[] caps.toArray] 70) :: (Blk bo #[vo] 22) :: (RowE (α := Ev) own 36 vo M) :: Fr) w21 := hW23
   have e27 := hA22 1 (by decide)
   refine obl rfl ?_
   refine (ov_call (f := 57) (vals := [.agg (x.cells vd).toArray]) (cap := []) (show _ = (.func (.func 57) #[] #[] : Value) from rfl) (mapL ⟨e27, trivial⟩) Try.call57 (D_copied (e := x) hd ok hS26) ?_)
   rintro _ w29 ⟨v28, rfl, hS30⟩
   have hr31 := hS30.row (i := 0) rfl
   have hr31s : x.deps.length * 8 ≤ 140737488355328 := hr31.2
   intro vals' hv hv'
   refine ⟨?_, trivial⟩
   show ∃ (v28 : Value), (vals' 2 = (.agg (x.cells v28).toArray : Value)) ∧ Sep G W ((RowE (α := Int) own 3 v28 x.deps) :: (Blk b6 (x.cells vd).toArray 36) :: (Blk bis #[.func (.func fis) #[] caps.toArray] 70) :: (Blk bo #[vo] 22) :: (RowE (α := Ev) own 36 vo M) :: Fr) w29
   exact ⟨v28, hv, hS30⟩
  ·intro k33 vals w34 h37 h38 hW36 hA35
   obtain rfl : k33 = 1 := Nat.le_antisymm h38 h37
   obtain ⟨v28, he32, hS39⟩ := hW36
   refine obl rfl ?_
   refine (ov_buildSlice (k := 10) (parts' := [(0, .agg (x.cells v28).toArray)]) (c := (x.cells v28).toArray) Try.underlying22 Try.sizeOf36 Try.zeroValue36 (by decide) (mapP ⟨rfl, he32, trivial⟩) (by kernel_rfl) ?_)
   intro w42 b41 hn40
   have hS43 : Sep G W ((Blk b41 (x.cells v28).toArray 36) :: (RowE (α := Int) own 3 v28 x.deps) :: (Blk b6 (x.cells vd).toArray 36) :: (Blk bis #[.func (.func fis) #[] caps.toArray] 70) :: (Blk bo #[vo] 22) :: (RowE (α := Ev) own 36 vo M) :: Fr) w42 := hS39.new hn40
   intro vals' hv hv'
   refine ⟨?_, trivial⟩
   show ∃ (v28 : Value) (b41 : Nat), (vals' 2 = (.agg (x.cells v28).toArray : Value)) ∧ (vals' 3 = ((.slice (some ⟨b41, 0, none⟩) 1 1) : Value)) ∧ Sep G W ((Blk b41 (x.cells v28).toArray 36) :: (RowE (α := Int) own 3 v28 x.deps) :: (Blk b6 (x.cells vd).toArray 36) :: (Blk bis #[.func (.func fis) #[] caps.toArray] 70) :: (Blk bo #[vo] 22) :: (RowE (α := Ev) own 36 vo M) :: Fr) w42
   exact ⟨v28, b41, (by rw [hv' 2 (by decide)]; exact he32), hv, hS43⟩
  ·intro k45 vals w46 h49 h50 hW48 hA47
   obtain rfl : k45 = 2 := Nat.le_antisymm h50 h49
   obtain ⟨v28, b41, he32, he44, hS51⟩ := hW48
   have e52 := hA47 0 (by decide)
   refine obl rfl ?_
   have hbk56 := hS51.blk (i := 0) rfl
   have hS57 : Sep G W ((RowE (α := Ev) own 36 vo M) :: (RowE (α := Int) own 3 v28 x.deps) :: (Blk b6 (x.cells vd).toArray 36) :: (Blk bis #[.func (.func fis) #[] caps.toArray] 70) :: (Blk bo #[vo] 22) :: Fr) w46 := hS51.sel 6 [5, 1, 2, 3, 4] (Nat.le_add_left _ _) rfl rfl
   refine (ov_append1S (src := own) (bytes := 96) (x1 := x) hS57 el22 e52 he44 hbk56 (fun _ _ hN => ⟨_, rfl, RowE.soft hN, ok⟩) (by first | omega | (simp only [List.length_append, List.length_cons, List.length_nil, List.length_take, List.length_drop]; omega)) rfl ?_)
   intro v54 w53 hS55
   have hr58 := hS55.row (i := 0) rfl
   have hr58s : (M ++ [x]).length * 96 ≤ 140737488355328 := hr58.2
   intro vals' hv hv'
   refine ⟨?_, trivial⟩
   show ∃ (v28 : Value) (b41 : Nat) (v54 : Value), (vals' 2 = (.agg (x.cells v28).toArray : Value)) ∧ (vals' 3 = ((.slice (some ⟨b41, 0, none⟩) 1 1) : Value)) ∧ (vals' 4 = (v54 : Value)) ∧ Sep G W ((RowE (α := Ev) own 36 v54 (M ++ [x])) :: (Blk b6 (x.cells vd).toArray 36) :: (Blk bis #[.func (.func fis) #[] caps.toArray] 70) :: (Blk bo #[vo] 22) :: Fr) w53
   exact ⟨v28, b41, v54, (by rw [hv' 2 (by decide)]; exact he32), (by rw [hv' 3 (by decide)]; exact he44), hv, hS55⟩
  ·intro k60 vals w61 h64 h65 hW63 hA62
   obtain rfl : k60 = 3 := Nat.le_antisymm h65 h64
   obtain ⟨v28, b41, v54, he32, he44, he59, hS66⟩ := hW63
   refine obl rfl ?_
   have hr69 := hS66.row (i := 0) rfl
   have hr69s : (M ++ [x]).length * 96 ≤ 140737488355328 := hr69.2
   refine (ov_store1 (v := v54) (c := [vo]) (c' := [v54]) Try.sizeOf22 rfl he59 (hS66.blk (i := 3) rfl) hr69.1.one rfl rfl ?_)
   intro w67 hp68
   have hS70 : Sep G W ((RowE (α := Ev) own 36 v54 (M ++ [x])) :: (Blk b6 (x.cells vd).toArray 36) :: (Blk bis #[.func (.func fis) #[] caps.toArray] 70) :: (Blk bo #[v54] 22) :: Fr) w67 := hS66.put (i := 3) rfl hp68
   intro vals' hv hv'
   refine ⟨?_, trivial⟩
   show ∃ (v28 : Value) (b41 : Nat) (v54 : Value), (vals' 2 = (.agg (x.cells v28).toArray : Value)) ∧ (vals' 3 = ((.slice (some ⟨b41, 0, none⟩) 1 1) : Value)) ∧ (vals' 4 = (v54 : Value)) ∧ Sep G W ((RowE (α := Ev) own 36 v54 (M ++ [x])) :: (Blk b6 (x.cells vd).toArray 36) :: (Blk bis #[.func (.func fis) #[] caps.toArray] 70) :: (Blk bo #[v54] 22) :: Fr) w67
   exact ⟨v28, b41, v54, (by rw [hv' 2 (by decide)]; exact he32), (by rw [hv' 3 (by decide)]; exact he44), (by rw [hv' 4 (by decide)]; exact he59), hS70⟩
  intro vals w87 hW88 hA89
  obtain ⟨v28, b41, v54, he32, he44, he59, hS90⟩ := hW88
  refine st_env (kv := [(3, .pointer (some ⟨bis, 0, none⟩)), (5, .pointer (some ⟨bo, 0, none⟩)), (6, .pointer (some ⟨b6, 0, none⟩)), (13, .func (.func fis) #[] caps.toArray), (14, .agg (x.cells vd).toArray), (15, .bool true)]) ⟨rfl, rfl, rfl, rfl, rfl, rfl, trivial⟩ (fun ρw87 => ?_)
  refine st_nil ?_
  have hS91 : Sep G W ((Blk bis #[.func (.func fis) #[] caps.toArray] 70) :: (Blk bo #[v54] 22) :: (RowE (α := Ev) own 36 v54 (M ++ [x])) :: Fr) w87 := hS90.sel 4 [2, 3, 0] (Nat.le_add_left _ _) rfl rfl
  exact hk _ _ _ _ (by simp only [*, if_true]) hS91

end Go.Proofs.Ytgjgmojjeehieaa
