/- Steps of the proofs of this seat: part A13. -/
import Derived.Test.YtgjgmojjeehieaaA12
set_option linter.unusedSimpArgs false
set_option linter.unusedVariables false
set_option maxRecDepth 8000
set_option maxHeartbeats 4000000
namespace Go.Proofs.Ytgjgmojjeehieaa
open Go.Proofs Go.RowKit Go.Sort Go.Shelf

theorem D_values {G : Nat → Prop} {W w : World} {Rs : List HP} {m : Nat} (hS0 : Sep G W Rs w) : Ret Try.prog 76 [.map (some m)] w (fun r w' => ∃ (bm : Nat), r = (.func (.func 81) #[] #[.pointer (some ⟨bm, 0, none⟩)] : Value) ∧ Sep G W ((Blk bm #[.map (some m)] 71) :: Rs) w') := by
 refine Calls_of_WP (args := [.map (some m)]) Try.func76 rfl rfl ?_
 refine WP_seq ?_
 refine WP_region0 (by kernel_rfl) (fun _ => ?_)
 refine st (ov_box (v := .map (some m)) rfl ?_)
 intro w3 b2 hn1
 have hS4 : Sep G W ((Blk b2 #[.map (some m)] 71) :: Rs) w3 := hS0.new hn1
 refine st (ov_assign (v := .nilFunc) rfl ?_)
 refine st_nil ?_
 refine WP_seq ?_
 refine WP_region0 (by kernel_rfl) (fun _ => ?_)
 refine st (ov_makeFunc (vals := [.pointer (some ⟨b2, 0, none⟩)]) rfl ?_)
 refine st (ov_assign (v := .func (.func 81) #[] #[.pointer (some ⟨b2, 0, none⟩)]) rfl ?_)
 refine st_nil ?_
 refine WP_ret ?_
 refine fin1 Try.results76 (show _ = (.func (.func 81) #[] #[.pointer (some ⟨b2, 0, none⟩)] : Value) from rfl) ?_
 refine ⟨b2, rfl, hS4⟩

def idE (e : Ev) : Int × Int := (e.origin, e.seq)
/-- Events in order. -/
def Srt (L : List Ev) : Prop := L.Pairwise fun a b => cmpE a b < 0
theorem getE_none {L : List Ev} {k : Int × Int} (h : k ∉ L.map idE) : getE L k = none := by
  unfold getE
  rw [List.find?_eq_none]
  intro x hx hk
  simp only [decide_eq_true_eq] at hk
  exact h (List.mem_map.2 ⟨x, hx, by unfold idE; rw [hk.1, hk.2]⟩)
theorem getE_self : ∀ {L : List Ev} {x : Ev}, (L.map idE).Nodup → x ∈ L → getE L (idE x) = some x
  | y :: L, x, hn, hx => by
    unfold getE
    rw [List.find?_cons]
    rcases List.mem_cons.1 hx with rfl | hx
    · simp [idE]
    · have hn2 := List.nodup_cons.1 (show (idE y :: L.map idE).Nodup from hn)
      have hne : ¬ (y.origin = (idE x).1 ∧ y.seq = (idE x).2) := fun h => hn2.1 (List.mem_map.2 ⟨x, hx, by unfold idE; rw [h.1, h.2]; rfl⟩)
      rw [decide_eq_false hne]
      exact getE_self hn2.2 hx
theorem getE_iff {L : List Ev} {k : Int × Int} : (getE L k).isSome = true ↔ k ∈ L.map idE := by
  constructor
  · intro h
    obtain ⟨x, hx⟩ := Option.isSome_iff_exists.1 h
    obtain ⟨h1, h2, h3⟩ := getE_mem hx
    exact List.mem_map.2 ⟨x, h1, by unfold idE; rw [h2, h3]⟩
  · intro h
    cases hg : getE L k with
    | some x => rfl
    | none =>
      obtain ⟨x, hx, rfl⟩ := List.mem_map.1 h
      exfalso
      unfold getE at hg
      rw [List.find?_eq_none] at hg
      exact hg x hx (by simp [idE])
theorem look_mem {κ β : Type} [DecidableEq κ] {R : List (κ × β)} {k : κ} : (lookV R k).isSome = true ↔ k ∈ R.map (·.1) := by
  unfold lookV
  rw [Option.isSome_map, List.find?_isSome]
  constructor
  · rintro ⟨p, hp, hk⟩
    exact List.mem_map.2 ⟨p, hp, by simpa using hk⟩
  · intro h
    obtain ⟨p, hp, rfl⟩ := List.mem_map.1 h
    exact ⟨p, hp, by simp⟩
theorem look_at_ {κ β : Type} [DecidableEq κ] : ∀ {R : List (κ × β)} {p : κ × β}, (R.map (·.1)).Nodup → p ∈ R → lookV R p.1 = some p.2
  | q :: R, p, hn, hp => by
    unfold lookV
    rw [List.find?_cons]
    rcases List.mem_cons.1 hp with rfl | hp
    · simp
    · have hn2 := List.nodup_cons.1 (show (q.1 :: R.map (·.1)).Nodup from hn)
      have hne : ¬ q.1 = p.1 := fun h => hn2.1 (List.mem_map.2 ⟨p, hp, h.symm⟩)
      rw [decide_eq_false hne]
      exact look_at_ hn2.2 hp
theorem pairwise_uniq {l : List Ev} : ∀ {S : List Ev}, l.Perm S → S.Pairwise (fun a b => cmpE a b < 0) → l.Pairwise (fun a b => ¬ cmpE b a < 0) → l = S := by
  induction l with
  | nil => intro S hp _ _; exact (List.nil_perm.1 hp).symm
  | cons a l ih =>
    intro S hp hS hl
    cases S with
    | nil => exact absurd hp.length_eq (by simp)
    | cons s S =>
      rw [List.pairwise_cons] at hS hl
      have ha : a ∈ s :: S := hp.subset (List.mem_cons_self ..)
      have hs : s ∈ a :: l := hp.symm.subset (List.mem_cons_self ..)
      have e : a = s := by
        rcases List.mem_cons.1 ha with h | h
        · exact h
        · rcases List.mem_cons.1 hs with h2 | h2
          · exact h2.symm
          · exact absurd (hS.1 a h) (hl.1 s h2)
      subst e
      rw [ih ((List.perm_cons a).1 hp) hS.2 hl.2]
/-- What a map's places give. -/
def evOf (R : List ((Int × Int) × Value)) (L : List Ev) (j : Nat) : Ev := (getE L ((R[j]?.map (·.1)).getD default)).getD default
section
variable {G : Nat → Prop} {W w : World} {Rs : List HP} {m n clock : Nat} {L : List Ev} {R : List ((Int × Int) × Value)} {es : Array MapEntry}
theorem SetR.place (h : SetR W G m R L) (hn : (R.map (·.1)).Nodup) (he : EntsV enc2 es.toList R) {j : Nat} (hj : j < es.toList.length) : ∃ vd, es.toList[j].val = .agg ((evOf R L j).cells vd).toArray ∧ (evOf R L j).Ok ∧ RdS W G vd (evOf R L j).deps := by
  obtain ⟨p, hp, hk, hv⟩ := he.at_ (List.getElem?_eq_getElem hj)
  obtain ⟨x, vd, h1, h2, h3, h4, _⟩ := h.at_ p.1
  have hl := look_at_ hn (List.mem_of_getElem? hp)
  rw [hl] at h2
  have e : evOf R L j = x := by unfold evOf; rw [hp, h1]; rfl
  rw [e]
  exact ⟨vd, hv.trans h2, h3, h4⟩
theorem SetR.perm (h : SetR W G m R L) (hn : (R.map (·.1)).Nodup) (hid : (L.map idE).Nodup) : ((List.range R.length).map (evOf R L)).Perm L := by
  have h1 : (R.map (·.1)).Perm (L.map idE) := (List.perm_ext_iff_of_nodup hn hid).2 fun k => by
    rw [← look_mem, ← getE_iff]
    obtain ⟨x, vd, _, _, _, _, h5⟩ := h.at_ k
    rw [h5]
  have h2 := h1.map (fun k => (getE L k).getD default)
  have e1 : (L.map idE).map (fun k => (getE L k).getD default) = L := by
    rw [List.map_map]
    conv => rhs; rw [← List.map_id L]
    refine List.map_congr_left fun x hx => ?_
    show (getE L (idE x)).getD default = id x
    rw [getE_self hid hx]; rfl
  rw [e1] at h2
  have e2 : (List.range R.length).map (evOf R L) = (R.map (·.1)).map (fun k => (getE L k).getD default) := by
    refine List.ext_getElem (by simp) (fun i h3 h4 => ?_)
    simp at h3
    simp [evOf, h3]
  rw [e2]; exact h2
end
/-- What the loop has laid by. -/
def SomeA (bis bo : Nat) (fis : FuncId) (caps : List Value) (p : Ev → Bool) (f : Nat → Ev) (idx : List Nat) : HP := Ex1 fun vo => Star [Blk bis #[.func (.func fis) #[] caps.toArray] 70, Blk bo #[vo] 22, RowE (α := Ev) own 36 vo ((idx.map f).filter p)]
theorem D_some {G : Nat → Prop} {W w : World} {Rs : List HP} {b : Nat} {n : Nat} {L : List Ev} (hb : (SetO b n L).p W G) {fis : FuncId} {caps : List Value} {p : Ev → Bool} (hfis : ∀ args w, (callFunc fis args).run Try.prog w = .ok (.enter fis args) w) (hIs : ∀ {w : World} {Rs : List HP} {x : Ev} {dx0 : Value} (hdx0 : RdS W G dx0 x.deps) (ox : x.Ok), Sep G W Rs w → Ret Try.prog fis (.agg (x.cells dx0).toArray :: caps) w (fun r w' => r = (.bool (p x) : Value) ∧ Sep G W Rs w')) (hS0 : Sep G W Rs w) (hid : (L.map idE).Nodup) (hsr : Srt L) (hL : L.length ≤ 1000000) : Ret Try.prog 53 [.pointer (some ⟨b, 0, none⟩), .func (.func fis) #[] caps.toArray] w (fun r w' => ∃ (v : Value), r = (v : Value) ∧ Sep G W ((RowE (α := Ev) own 36 v (L.filter p)) :: Rs) w') := by
  obtain ⟨vv, m, R, hbk, hvv, hr⟩ := SetO.sh hb
  obtain ⟨es, clock, hes, hst, hent, hclk⟩ := hr.is
  have hnR : (R.map (·.1)).Nodup := IsMap.nodup hr.is
  have hlen : es.size = R.length := by have := hent.len; simpa using this
  have hpl := hr.perm hnR hid
  have hRL : R.length = L.length := by have := hpl.length_eq; simpa using this
  refine Ret_of_WPZ (args := [.pointer (some ⟨b, 0, none⟩), .func (.func fis) #[] caps.toArray]) Try.func53 rfl rfl ?_
  refine WPZ_pre ?_
  refine WP_region0 (by kernel_rfl) (fun _ => ?_)
  refine st (ov_box (v := .func (.func fis) #[] caps.toArray) rfl ?_)
  intro w1 bis hn1
  have hS1 := hS0.new hn1
  refine st (ov_assign (v := (.slice none 0 0)) rfl ?_)
  refine st_nil ?_
  refine WPZ_pre ?_
  refine WP_region0 (by kernel_rfl) (fun _ => ?_)
  refine st (ov_alloc Try.zeroValue22 ?_)
  intro w2 bo hn2
  have hS2 := hS1.new hn2
  refine st_nil ?_
  refine WPZ_post ?_
  refine WPZ_pre ?_
  refine WP_region0 (by kernel_rfl) (fun _ => ?_)
  refine st (ov_move (v := .pointer (some ⟨b, 0, none⟩)) rfl ?_)
  refine st (ov_nilCheck (b := b) (o := 0) rfl ?_)
  refine st (fd73_1 rfl ?_)
  refine st (ov_load1 (v := .map (some m)) Try.isAgg71 rfl (blk_cellL (hS2.gblk hbk) rfl) ?_)
  refine st (ov_call (f := 76) (vals := [.map (some m)]) (cap := []) (show _ = (.func (.func 76) #[] #[] : Value) from rfl) rfl Try.call76 (D_values hS2) ?_)
  rintro _ w3 ⟨bm, rfl, hS3⟩
  refine st_nil ?_
  refine WPZ_block ?_
  refine WPZ_rangeFunc (gf := 81) (lb := [.pointer (some ⟨bm, 0, none⟩)]) rfl Try.call81 ?_
  intro fn tm htm
  have hS4 := (hS3.objNew (ret_alloc w3 (.deferred (some [])))).objNew (ret_alloc _ (.loop { state := .ready, pending := none, fn, tmps := tm, params := #[12], assign := cA (someRf Try.f53), body := cB (someRf Try.f53), defers := w3.heap.size }))
  rw [show (w3.alloc (.deferred (some []))).heap.size = w3.heap.size + 1 from World.size_alloc ..] at hS4
  have hS5 := hS4.rowNil (α := Ev) own 36
  have hS6 := Sep.closeStar (Bs := [Blk bis #[.func (.func fis) #[] caps.toArray] 70, Blk bo #[.slice none 0 0] 22, RowE (α := Ev) own 36 (.slice none 0 0) []]) (hS5.sel 6 [5, 4, 0, 1, 3, 2] (Nat.le_add_left _ _) rfl rfl)
  have hS7 : Sep G W (SomeA bis bo fis caps p (evOf R L) [] :: _) _ := Sep.closeEx (A := fun vo => Star [Blk bis #[.func (.func fis) #[] caps.toArray] 70, Blk bo #[vo] 22, RowE (α := Ev) own 36 vo ((([] : List Nat).map (evOf R L)).filter p)]) (.slice none 0 0) hS6
  refine Ret.mono (D_vals (A := SomeA bis bo fis caps p (evOf R L)) hr.gm hes hst rfl (fun j hj => ?_) ?_ hS7) ?_
  · obtain ⟨vd, h1, _, h3⟩ := hr.place hnR hent hj
    exact ⟨_, vd, h1, h3.sl.one⟩
  · intro idx j hj v Fr w8 hv hlt hnd hS8
    obtain ⟨vd, hcv, hok, hrd⟩ := hr.place hnR hent hj
    rw [hcv] at hv
    subst hv
    refine round_of (n := 24) htm (by decide) ?_
    refine WPX_region0 (by kernel_rfl) (fun _ => ?_)
    refine st (ov_alloc Try.zeroValue36 ?_)
    intro w9 b6 hn9
    have hS9 := hS8.new hn9
    refine stn (ov_store (v := .agg ((evOf R L j).cells vd).toArray) (c' := ((evOf R L j).cells vd).toArray) Try.sizeOf36 rfl rfl (hS9.blk (i := 0) rfl) (all1 ⟨rfl, rfl, rfl, hrd.sl.one, rfl, rfl, rfl, rfl, rfl, rfl, trivial⟩) (Nat.le_of_ble_eq_true rfl) rfl ?_)
    intro w10 hp10
    have hS10 := hS9.put (i := 0) rfl hp10
    refine st_nil ?_
    refine ⟨_, run_beginRound (hS10.obj (i := 2) rfl) rfl, ?_⟩
    have hS11 := hS10.objPut (i := 2) (o' := .loop { state := .busy, pending := none, fn, tmps := tm, params := #[12], assign := cA (someRf Try.f53), body := cB (someRf Try.f53), defers := w3.heap.size }) rfl rfl
    obtain ⟨vo, hS12⟩ := (hS11.sel 3 [1, 0, 2] (Nat.le_add_left _ _) rfl rfl).openEx
    have hS13 := hS12.openStar
    have hS14 := hS13.sel 5 [3, 0, 1, 2, 4] (Nat.le_add_left _ _) rfl rfl
    refine WPX_env (kv := [(3, .pointer (some ⟨bis, 0, none⟩)), (5, .pointer (some ⟨bo, 0, none⟩)), (6, .pointer (some ⟨b6, 0, none⟩))]) ⟨rfl, rfl, rfl, trivial⟩ (fun ρ => some_body hfis hIs hrd hok ?_ ?_ hS14)
    · have := List.length_filter_le p (idx.map (evOf R L))
      rw [List.length_map] at this
      omega
    · intro σ' w15 vo' M' hM hS15
      refine ⟨_, _, run_endRound none (hS15.obj (i := 3) rfl), rfl, ?_⟩
      have hS16 := hS15.objPut (i := 3) (o' := .loop { state := .ready, pending := none, fn, tmps := tm, params := #[12], assign := cA (someRf Try.f53), body := cB (someRf Try.f53), defers := w3.heap.size }) rfl rfl
      have hM2 : M' = ((idx ++ [j]).map (evOf R L)).filter p := by
        rw [hM, List.map_append, List.filter_append, List.map_cons, List.map_nil, List.filter_cons, List.filter_nil]
      rw [hM2] at hS16
      have hS17 := Sep.closeStar (Bs := [Blk bis #[.func (.func fis) #[] caps.toArray] 70, Blk bo #[vo'] 22, RowE (α := Ev) own 36 vo' (((idx ++ [j]).map (evOf R L)).filter p)]) hS16
      exact Sep.closeEx (A := fun vo => Star [Blk bis #[.func (.func fis) #[] caps.toArray] 70, Blk bo #[vo] 22, RowE (α := Ev) own 36 vo (((idx ++ [j]).map (evOf R L)).filter p)]) vo' hS17
  · rintro _ w9 ⟨idx, hperm, hS9⟩
    refine ⟨_, run_endLoop (hS9.obj (i := 1) rfl) (by simp), ?_⟩
    have hS10 := hS9.objPut (i := 1) (o' := .loop { state := .exhausted, pending := none, fn, tmps := tm, params := #[12], assign := cA (someRf Try.f53), body := cB (someRf Try.f53), defers := w3.heap.size }) rfl rfl
    obtain ⟨vo, hS11⟩ := hS10.openEx
    have hS12 := hS11.openStar
    have hS13 := hS12.sel 6 [2, 1, 5] (Nat.le_add_left _ _) rfl rfl
    have hpf : ((idx.map (evOf R L)).filter p).Perm (L.filter p) := by
      have h1 := (hperm.map (evOf R L))
      rw [hlen] at h1
      exact (h1.trans hpl).filter p
    refine WPX_seq ?_
    refine WPX_region0 (by kernel_rfl) (fun _ => ?_)
    refine st (ov_load1 (v := vo) Try.isAgg22 rfl (blk_cellL (hS13.blk (i := 1) rfl) rfl) ?_)
    refine st (ov_call (f := 77) (vals := [vo, .func (.func 78) #[] #[]]) (cap := []) (show _ = (.func (.func 77) #[] #[] : Value) from rfl) rfl Try.call77 (D_sortEv (by have h1 := hpf.length_eq; have h2 := List.length_filter_le p L; omega) hS13) ?_)
    rintro _ w14 ⟨l', rfl, hp', hso', hS14⟩
    refine st_nil ?_
    refine WPX_seq ?_
    refine WPX_region0 (by kernel_rfl) (fun _ => ?_)
    refine st (ov_load1 (v := vo) Try.isAgg22 rfl (blk_cellL (hS14.blk (i := 1) rfl) rfl) ?_)
    refine st (ov_assign (v := vo) rfl ?_)
    refine st_nil ?_
    refine WPX_ret ?_
    refine ⟨_, run_takeDeferred (hS14.obj (i := 2) rfl), fin1 Try.results53 (show _ = (vo : Value) from rfl) ⟨vo, rfl, ?_⟩⟩
    have hS15 := hS14.objPut (i := 2) (o' := .deferred none) rfl rfl
    have hl' : l' = L.filter p := pairwise_uniq (hp'.trans hpf) (hsr.filter p) hso'
    rw [hl'] at hS15
    exact hS15.sel 3 [0] (Nat.le_add_left _ _) rfl rfl

end Go.Proofs.Ytgjgmojjeehieaa
