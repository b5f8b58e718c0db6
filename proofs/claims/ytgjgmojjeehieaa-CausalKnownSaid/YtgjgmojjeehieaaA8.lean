/- Steps of the proofs of this seat: part A8. -/
import Derived.Test.YtgjgmojjeehieaaA7
set_option linter.unusedSimpArgs false
set_option linter.unusedVariables false
set_option maxRecDepth 8000
set_option maxHeartbeats 4000000
namespace Go.Proofs.Ytgjgmojjeehieaa
open Go.Proofs Go.RowKit

section
variable {G : Nat → Prop} {W w : World} {As : List HP} {b n : Nat} {L : List Ev}
theorem SetO.open (h : Sep G W (SetO b n L :: As) w) : ∃ vv m, Sep G W (Blk b #[vv, .map (some m), .int .i64 (topE L)] 73 :: RowE (α := Int) own 3 vv (vecE n L) :: MapO enc2 EV m (getE L) :: As) w := by
  obtain ⟨vv, h⟩ := h.openEx
  obtain ⟨m, h⟩ := h.openEx
  exact ⟨vv, m, h.openStar⟩
theorem SetO.close {vv : Value} {m : Nat} {t : Int} {v : List Int} {X : Int × Int → Option Ev} (h : Sep G W (Blk b #[vv, .map (some m), .int .i64 t] 73 :: RowE (α := Int) own 3 vv v :: MapO enc2 EV m X :: As) w) (ht : t = topE L) (hv : v = vecE n L) (hX : X = getE L) : Sep G W (SetO b n L :: As) w := by
  subst ht hv hX
  have h := Sep.closeStar (Bs := [Blk b #[vv, .map (some m), .int .i64 (topE L)] 73, RowE (α := Int) own 3 vv (vecE n L), MapO enc2 EV m (getE L)]) h
  exact Sep.closeEx (A := fun vv => Ex1 fun m => Star [Blk b #[vv, .map (some m), .int .i64 (topE L)] 73, RowE (α := Int) own 3 vv (vecE n L), MapO enc2 EV m (getE L)]) vv (Sep.closeEx (A := fun m => Star [Blk b #[vv, .map (some m), .int .i64 (topE L)] 73, RowE (α := Int) own 3 vv (vecE n L), MapO enc2 EV m (getE L)]) m h)
/-- What a map of events shows that is shared. -/
structure SetR (W : World) (G : Nat → Prop) (m : Nat) (R : List ((Int × Int) × Value)) (L : List Ev) : Prop where
  gm : G m
  is : IsMap enc2 W m R
  at_ : ∀ k, ∃ (x : Ev) (vd : Value), x = (getE L k).getD default ∧ (lookV R k).getD zeroE = .agg (x.cells vd).toArray ∧ x.Ok ∧ RdS W G vd x.deps ∧ (lookV R k).isSome = (getE L k).isSome
theorem IsMap.move {κ : Type} [DecidableEq κ] {enc : κ → Value} {W w : World} {m : Nat} {R : List (κ × Value)} (h : IsMap enc W m R) (e : w.heap[m]? = W.heap[m]?) : IsMap enc w m R := by
  obtain ⟨es, c, h1, h2⟩ := h
  exact ⟨es, c, e.trans h1, h2⟩
theorem SetR.base {G' : Nat → Prop} {W' : World} {m : Nat} {R : List ((Int × Int) × Value)} (h : SetR W G m R L) (hb : Base G W G' W') : SetR W' G' m R L :=
  ⟨(hb m h.gm h.is.lt).2, h.is.move (hb m h.gm h.is.lt).1, fun k => by
    obtain ⟨x, vd, h1, h2, h3, h4, h5⟩ := h.at_ k
    exact ⟨x, vd, h1, h2, h3, h4.base hb, h5⟩⟩
theorem MapO.rd {m : Nat} (h : (MapO enc2 EV m (getE L)).p W G) : ∃ R, SetR W G m R L := by
  obtain ⟨R, g, h1, h2, h3, h4⟩ := h
  refine ⟨R, h1, h2, fun k => ?_⟩
  have h5 := h3 k
  cases hR : lookV R k with
  | none =>
    cases hX : getE L k with
    | none => exact ⟨default, .slice none 0 0, rfl, rfl, by constructor <;> decide, RdS.nil _ _, rfl⟩
    | some x => rw [hR, hX] at h5; exact h5.elim
  | some v =>
    cases hX : getE L k with
    | none => rw [hR, hX] at h5; exact h5.elim
    | some x =>
      rw [hR, hX] at h5
      obtain ⟨vd, e1, e2, e3⟩ := h5
      exact ⟨x, vd, rfl, e1, e2, (RowE.rd e3).weak (fun b _ hb => (h4.sub k b hb).1), rfl⟩
theorem SetO.sh (h : (SetO b n L).p W G) : ∃ vv m R, (Blk b #[vv, .map (some m), .int .i64 (topE L)] 73).p W G ∧ RdS W G vv (vecE n L) ∧ SetR W G m R L := by
  obtain ⟨vv, m, h⟩ := h
  obtain ⟨R, hR⟩ := MapO.rd (Star.at_ h (i := 2) rfl)
  exact ⟨vv, m, R, Star.at_ h (i := 0) rfl, RowE.rd (T := 3) (Star.at_ h (i := 1) rfl), hR⟩
theorem ov_lookS2 {K : Value → World → Prop} {P : Program} {d : Option Tmp} {ty : TypeId} {pos : String} {af : Array Edge} {g : Option (Nat × Bool)} {σ : Env} {t kt et : TypeId} {x y : Operand} {m : Nat} {R : List ((Int × Int) × Value)} {k : Int × Int} {v : Value} {bb : Bool} (h : Sep G W As w) (hr : SetR W G m R L) (hK : KLaw P kt enc2) (hU : P.underlying t = some (.map kt et)) (hZ : ∀ w, (zeroValue et).run P w = .ok zeroE w)
    (hx : ev σ x = .map (some m)) (hy : ev σ y = enc2 k) (hv : (lookV R k).getD zeroE = v) (hb : (lookV R k).isSome = bb) (hk : K (.tuple #[v, .bool bb]) w) : opV P ⟨d, .lookup t x y true, ty, pos, af, g⟩ σ w K := by
  subst hv hb
  exact ov_lookupV2 hK hU hZ hx hy (hr.is.move (h.gb hr.gm)) hk
end
theorem vecE_nil {n : Nat} : List.replicate n (0 : Int) = vecE n [] := by
  unfold vecE cntE
  refine List.ext_getElem (by simp) (fun i h1 h2 => by simp)
theorem vecE_len {n : Nat} {L : List Ev} : (vecE n L).length = n := by simp [vecE]
theorem vecE_at {n : Nat} {L : List Ev} {o : Nat} (h : o < n) : (vecE n L).getD o 0 = ((cntE L o : Nat) : Int) := by simp [vecE, h]
theorem D_NewSet {G : Nat → Prop} {W w : World} {Rs : List HP} {n : Nat} (hn : n ≤ 1000) (hS0 : Sep G W Rs w) : Ret Try.prog 20 [.int .i64 ((n : Nat) : Int)] w (fun r w' => ∃ (b : Nat), r = (.pointer (some ⟨b, 0, none⟩) : Value) ∧ Sep G W ((SetO b n ([] : List Ev)) :: Rs) w') := by
 refine Calls_of_WP (args := [.int .i64 ((n : Nat) : Int)]) Try.func20 rfl rfl ?_
 refine WP_seq ?_
 refine WP_region0 (by kernel_rfl) (fun _ => ?_)
 refine st (ov_assign (v := .pointer none) rfl ?_)
 refine st_nil ?_
 refine WP_seq ?_
 refine WP_region0 (by kernel_rfl) (fun _ => ?_)
 refine st (ov_move (v := .int .i64 ((n : Nat) : Int)) rfl ?_)
 refine st (ov_makeSlice (α := Int) (T := 3) (bytes := 8) (n := n) (x1 := (0 : Int)) Try.underlying34 ⟨_, _, rfl, rfl, rfl, rfl, rfl, fun _ _ => ⟨rfl, by decide⟩⟩ rfl rfl rfl (by show n * 8 ≤ 140737488355328; omega) ?_)
 intro w6 b1 hx2 he3 hl4 ho5
 have hS7 : Sep G W ((RowE (α := Int) own 3 (.slice (some ⟨b1, 0, none⟩) n n) (List.replicate n (0 : Int))) :: Rs) w6 := hS0.made hx2 ho5
 have hr8 := hS7.row (i := 0) rfl
 have hr8s : (List.replicate n (0 : Int)).length * 8 ≤ 140737488355328 := hr8.2
 refine st (ov_makeMap ?_)
 intro w10 hn9
 obtain ⟨m11, m11e⟩ : ∃ z, z = w6.heap.size := ⟨_, rfl⟩; rw [← m11e]
 have hS12 : Sep G W ((MapO enc2 EV m11 (fun _ => none)) :: (RowE (α := Int) own 3 (.slice (some ⟨b1, 0, none⟩) n n) (List.replicate n (0 : Int))) :: Rs) w10 := (by rw [m11e]; exact hS7.mapoNew hn9)
 refine st (ov_build (parts' := [(0, (.slice (some ⟨b1, 0, none⟩) n n)), (1, .map (some m11))]) (v := .agg #[(.slice (some ⟨b1, 0, none⟩) n n), .map (some m11), .int .i64 (0)]) rfl (by obtain ⟨_, _, hv13, _⟩ := hr8.1; rw [show (.slice (some ⟨b1, 0, none⟩) n n) = Value.slice _ _ _ from hv13]; simp [Instr.build, Instr.fill, go_sem]) ?_)
 refine st (ov_box (v := .agg #[(.slice (some ⟨b1, 0, none⟩) n n), .map (some m11), .int .i64 (0)]) rfl ?_)
 intro w16 b15 hn14
 have hS17 : Sep G W ((Blk b15 #[(.slice (some ⟨b1, 0, none⟩) n n), .map (some m11), .int .i64 (0)] 73) :: (MapO enc2 EV m11 (fun _ => none)) :: (RowE (α := Int) own 3 (.slice (some ⟨b1, 0, none⟩) n n) (List.replicate n (0 : Int))) :: Rs) w16 := hS12.new hn14
 refine st (ov_assign (v := .pointer (some ⟨b15, 0, none⟩)) rfl ?_)
 refine st_nil ?_
 refine WP_ret ?_
 refine fin1 Try.results20 (show _ = (.pointer (some ⟨b15, 0, none⟩) : Value) from rfl) ?_
 have hS18 : Sep G W ((Blk b15 #[(.slice (some ⟨b1, 0, none⟩) n n), .map (some m11), .int .i64 (0)] 73) :: (RowE (α := Int) own 3 (.slice (some ⟨b1, 0, none⟩) n n) (List.replicate n (0 : Int))) :: (MapO enc2 EV m11 (fun _ => none)) :: Rs) w16 := hS17.sel 3 [0, 2, 1] (Nat.le_add_left _ _) rfl rfl
 have hS19 : Sep G W ((SetO b15 n ([] : List Ev)) :: Rs) w16 := SetO.close hS18 rfl vecE_nil rfl
 refine ⟨b15, rfl, hS19⟩

theorem fd73_0 {d : Option Tmp} {ty : TypeId} {pos : String} {af : Array Edge} {g : Option (Nat × Bool)} {σ : Env} {w : World} {K : Value → World → Prop} {x : Operand} {b o : Nat} (hx : ev σ x = .pointer (some ⟨b, o, none⟩)) (h : K (.pointer (some ⟨b, o + 0, none⟩)) w) : opV Try.prog ⟨d, .fieldAddr 73 x 0, ty, pos, af, g⟩ σ w K := ov_fieldAddr Try.underlying73 rfl rfl (fun w => ⟨0, Try.sizeOf34 w⟩) hx h
theorem D_Vec {G : Nat → Prop} {W w : World} {Rs : List HP} {b : Nat} {n : Nat} {L : List Ev} (hb : (SetO b n L).p W G) (hS0 : Sep G W Rs w) : Ret Try.prog 26 [.pointer (some ⟨b, 0, none⟩)] w (fun r w' => ∃ (v : Value), r = (v : Value) ∧ Sep G W ((RowE (α := Int) own 3 v (vecE n L)) :: Rs) w') := by
 refine Calls_of_WP (args := [.pointer (some ⟨b, 0, none⟩)]) Try.func26 rfl rfl ?_
 obtain ⟨vv1, m2, R3, hb4, hv5, hr6⟩ := SetO.sh hb
 have hsm7 : (vecE n L).length * 8 ≤ 140737488355328 := hv5.small
 refine WP_seq ?_
 refine WP_region0 (by kernel_rfl) (fun _ => ?_)
 refine st (ov_assign (v := (.slice none 0 0)) rfl ?_)
 refine st_nil ?_
 refine WP_seq ?_
 refine WP_region0 (by kernel_rfl) (fun _ => ?_)
 refine st (ov_move (v := .pointer (some ⟨b, 0, none⟩)) rfl ?_)
 refine st (ov_nilCheck (b := b) (o := 0) rfl ?_)
 refine st (fd73_0 rfl ?_)
 refine st (ov_load1 (v := vv1) Try.isAgg34 rfl (blk_cellL (hS0.gblk hb4) rfl) ?_)
 refine st (ov_call (f := 60) (vals := [vv1]) (cap := []) (show _ = (.func (.func 60) #[] #[] : Value) from rfl) rfl Try.call60 (D_cloneInt (l := vecE n L) (vl := vv1) hv5 hS0) ?_)
 rintro v8 w9 ⟨_, rfl, hS10⟩
 have hr11 := hS10.row (i := 0) rfl
 have hr11s : (vecE n L).length * 8 ≤ 140737488355328 := hr11.2
 refine st (ov_assign (v := v8) rfl ?_)
 refine st_nil ?_
 refine WP_ret ?_
 refine fin1 Try.results26 (show _ = (v8 : Value) from rfl) ?_
 refine ⟨v8, rfl, hS10⟩

theorem fd73_2 {d : Option Tmp} {ty : TypeId} {pos : String} {af : Array Edge} {g : Option (Nat × Bool)} {σ : Env} {w : World} {K : Value → World → Prop} {x : Operand} {b o : Nat} (hx : ev σ x = .pointer (some ⟨b, o, none⟩)) (h : K (.pointer (some ⟨b, o + 2, none⟩)) w) : opV Try.prog ⟨d, .fieldAddr 73 x 2, ty, pos, af, g⟩ σ w K := ov_fieldAddr Try.underlying73 rfl rfl (fun w => ⟨0, Try.sizeOf3 w⟩) hx h
theorem D_Top {G : Nat → Prop} {W w : World} {Rs : List HP} {b : Nat} {n : Nat} {L : List Ev} (hb : (SetO b n L).p W G) (hS0 : Sep G W Rs w) : Ret Try.prog 23 [.pointer (some ⟨b, 0, none⟩)] w (fun r w' => r = (.int .i64 (topE L) : Value) ∧ Sep G W Rs w') := by
 refine Calls_of_WP (args := [.pointer (some ⟨b, 0, none⟩)]) Try.func23 rfl rfl ?_
 obtain ⟨vv1, m2, R3, hb4, hv5, hr6⟩ := SetO.sh hb
 have hsm7 : (vecE n L).length * 8 ≤ 140737488355328 := hv5.small
 refine WP_seq ?_
 refine WP_region0 (by kernel_rfl) (fun _ => ?_)
 refine st (ov_assign (v := .int .i64 (0)) rfl ?_)
 refine st_nil ?_
 refine WP_seq ?_
 refine WP_region0 (by kernel_rfl) (fun _ => ?_)
 refine st (ov_move (v := .pointer (some ⟨b, 0, none⟩)) rfl ?_)
 refine st (ov_nilCheck (b := b) (o := 0) rfl ?_)
 refine st (fd73_2 rfl ?_)
 refine st (ov_load1 (v := .int .i64 (topE L)) Try.isAgg3 rfl (blk_cellL (hS0.gblk hb4) rfl) ?_)
 refine st (ov_assign (v := .int .i64 (topE L)) rfl ?_)
 refine st_nil ?_
 refine WP_ret ?_
 refine fin1 Try.results23 (show _ = (.int .i64 (topE L) : Value) from rfl) ?_
 refine ⟨rfl, hS0⟩

end Go.Proofs.Ytgjgmojjeehieaa
