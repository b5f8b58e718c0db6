import Derived.Test.YtbbabhaalmkbkaaGreatDoorN7
set_option linter.unusedSimpArgs false
set_option linter.unusedVariables false
set_option linter.unusedSectionVars false
set_option linter.deprecated false
set_option maxRecDepth 8000
set_option maxHeartbeats 4000000
open Go.Proofs.Tryz renaming sizeOf41 → kT, isAgg3 → lT, isAgg41 → mT, zeroValue41 → nT, f38 → oT, isAgg28 → pT, sizeOf28 → qT, isAgg87 → rT, underlying39 → sT, sizeOf3 → tT, results14 → uT, sizeOf53 → vT, results11 → wT, underlying26 → kR, isAgg39 → lR, isAgg38 → mR, sizeOf38 → nR, underlying75 → oR, underlying87 → pR, isAgg53 → qR, isAgg25 → rR, sizeOf25 → sR, sizeOf73 → tR, isAgg26 → uR, call38 → vR, results28 → wR, results29 → kY, call33 → lY, call20 → mY, call32 → nY, isAgg73 → oY
namespace Go.Proofs.YtbbabhaalmkbkaaGreatDoor
open Go.Proofs Go.RowKit Go.Sort Go.Shelf

theorem QE {G : Nat → Prop} {W w : World} {Rs : List HP} {m : Nat} (hS0 : Sep G W Rs w) : Ret Tryz.prog 57 [.map (some m)] w (fun r w' => ∃ (bm : Nat), r = (.func (.func 75) #[] #[.pointer (some ⟨bm, 0, none⟩)] : Value) ∧ Sep G W ((Blk bm #[.map (some m)] 87) :: Rs) w') := by
 refine zi (args := [.map (some m)]) Tryz.func57 rfl rfl ?_
 refine za (R0 fun _ => st (zH (v := .map (some m)) rfl ?_))
 intro w3 b2 a
 refine st (aS .nilFunc (zd (za (R0 fun _ => st (xQ (vals := [Ix b2 0]) rfl (st (aS (.func (.func 75) #[] #[Ix b2 0]) (zd (zk (zG Tryz.results57 (show _ = (.func (.func 75) #[] #[Ix b2 0] : Value) from rfl) ?_))))))))))
 refine ⟨b2, rfl, (hS0.new a)⟩

def idE (e : Ev) : Int × Int := (e.origin, e.seq)
def Srt (L : List Ev) : Prop := L.Pairwise fun a b => ZS a b < 0
theorem ZI : ∀ {L : List Ev} {x : Ev}, (L.map idE).Nodup → x ∈ L → yg L (idE x) = some x
  | y :: L, x, hn, hx => by
    unfold yg
    rw [List.find?_cons]
    rcases List.mem_cons.1 hx with rfl | hx
    · simp [idE]
    · have hn2 := List.nodup_cons.1 (show (idE y :: L.map idE).Nodup from hn)
      have hne : ¬ (y.origin = (idE x).1 ∧ y.seq = (idE x).2) := fun h => hn2.1 (List.mem_map.2 ⟨x, hx, by unfold idE; rw [h.1, h.2]; rfl⟩)
      rw [decide_eq_false hne]
      exact ZI hn2.2 hx
theorem Vo {L : List Ev} {k : Int × Int} : (yg L k).isSome = true ↔ k ∈ L.map idE := by
  constructor
  · intro h
    obtain ⟨x, hx⟩ := Option.isSome_iff_exists.1 h
    obtain ⟨h1, h2, h3⟩ := Vy hx
    exact List.mem_map.2 ⟨x, h1, by unfold idE; rw [h2, h3]⟩
  · intro h
    cases hg : yg L k with
    | some x => rfl
    | none =>
      obtain ⟨x, hx, rfl⟩ := List.mem_map.1 h
      exfalso
      unfold yg at hg
      rw [List.find?_eq_none] at hg
      exact hg x hx (by simp [idE])
theorem QK {κ β : Type} [DecidableEq κ] {R : List (κ × β)} {k : κ} : (ym R k).isSome = true ↔ k ∈ R.map (·.1) := by
  unfold ym
  rw [Option.isSome_map, List.find?_isSome]
  constructor
  · rintro ⟨p, hp, hk⟩
    exact List.mem_map.2 ⟨p, hp, by simpa using hk⟩
  · intro h
    obtain ⟨p, hp, rfl⟩ := List.mem_map.1 h
    exact ⟨p, hp, by simp⟩
theorem VL {κ β : Type} [DecidableEq κ] : ∀ {R : List (κ × β)} {p : κ × β}, (R.map (·.1)).Nodup → p ∈ R → ym R p.1 = some p.2
  | q :: R, p, hn, hp => by
    unfold ym
    rw [List.find?_cons]
    rcases List.mem_cons.1 hp with rfl | hp
    · simp
    · have hn2 := List.nodup_cons.1 (show (q.1 :: R.map (·.1)).Nodup from hn)
      have hne : ¬ q.1 = p.1 := fun h => hn2.1 (List.mem_map.2 ⟨p, hp, h.symm⟩)
      rw [decide_eq_false hne]
      exact VL hn2.2 hp
theorem XM {l : List Ev} : ∀ {S : List Ev}, l.Perm S → S.Pairwise (fun a b => ZS a b < 0) → l.Pairwise (fun a b => ¬ ZS b a < 0) → l = S := by
  induction l with
  | nil => intro S hp _ _; exact (List.nil_perm.1 hp).symm
  | cons a l ih =>
    intro S hp hS hl
    cases S with
    | nil => exact absurd hp.length_eq (by simp)
    | cons s S =>
      rw [List.pairwise_cons] at hS hl
      have ha : a ∈ s :: S := hp.subset (List.mem_cons_self ..)
      have hs : s ∈ a :: l := hp.symm.subset (List.mem_cons_self ..)
      have e : a = s := by
        rcases List.mem_cons.1 ha with h | h
        · exact h
        · rcases List.mem_cons.1 hs with h2 | h2
          · exact h2.symm
          · exact absurd (hS.1 a h) (hl.1 s h2)
      subst e
      rw [ih ((List.perm_cons a).1 hp) hS.2 hl.2]
def Zl (R : List ((Int × Int) × Value)) (L : List Ev) (j : Nat) : Ev := (yg L ((R[j]?.map (·.1)).getD default)).getD default
section
variable {G : Nat → Prop} {W w : World} {Rs : List HP} {m n clock : Nat} {L : List Ev} {R : List ((Int × Int) × Value)} {es : Array MapEntry}
theorem SetR.place (h : SetR W G m R L) (hn : (R.map (·.1)).Nodup) (he : EntsV yI es.toList R) {j : Nat} (hj : j < es.toList.length) : ∃ vd, es.toList[j].val = .agg ((Zl R L j).cells vd).toArray ∧ (Zl R L j).Ok ∧ RdS W G vd (Zl R L j).deps := by
  obtain ⟨p, hp, hk, hv⟩ := he.at_ (List.getElem?_eq_getElem hj)
  obtain ⟨x, vd, h1, h2, h3, h4, _⟩ := h.at_ p.1
  have hl := VL hn (List.mem_of_getElem? hp)
  rw [hl] at h2
  have e : Zl R L j = x := by unfold Zl; rw [hp, h1]; rfl
  rw [e]
  exact ⟨vd, hv.trans h2, h3, h4⟩
theorem SetR.perm (h : SetR W G m R L) (hn : (R.map (·.1)).Nodup) (hid : (L.map idE).Nodup) : ((List.range R.length).map (Zl R L)).Perm L := by
  have h1 : (R.map (·.1)).Perm (L.map idE) := (List.perm_ext_iff_of_nodup hn hid).2 fun k => by
    rw [← QK, ← Vo]
    obtain ⟨x, vd, _, _, _, _, h5⟩ := h.at_ k
    rw [h5]
  have h2 := h1.map (fun k => (yg L k).getD default)
  have e1 : (L.map idE).map (fun k => (yg L k).getD default) = L := by
    rw [List.map_map]
    conv => rhs; rw [← List.map_id L]
    refine List.map_congr_left fun x hx => ?_
    show (yg L (idE x)).getD default = id x
    rw [ZI hid hx]; rfl
  rw [e1] at h2
  have e2 : (List.range R.length).map (Zl R L) = (R.map (·.1)).map (fun k => (yg L k).getD default) := by
    refine List.ext_getElem (by simp) (fun i h3 h4 => ?_)
    simp at h3
    simp [Zl, h3]
  rw [e2]; exact h2
end
def zaM (bis bo : Nat) (fis : FuncId) (caps : List Value) (p : Ev → Bool) (f : Nat → Ev) (idx : List Nat) : HP := Ex1 fun vo => Star [Blk bis #[.func (.func fis) #[] caps.toArray] 93, Blk bo #[vo] 26, RowE (α := Ev) own 41 vo ((idx.map f).filter p)]
theorem UH {G : Nat → Prop} {W w : World} {Rs : List HP} {b : Nat} {n : Nat} {L : List Ev} (hb : (SetO b n L).p W G) {fis : FuncId} {caps : List Value} {p : Ev → Bool} (hfis : ∀ args w, (callFunc fis args).run Tryz.prog w = .ok (.enter fis args) w) (hIs : ∀ {w : World} {Rs : List HP} {x : Ev} {dx0 : Value} (hdx0 : RdS W G dx0 x.deps) (ox : x.Ok), Sep G W Rs w → Ret Tryz.prog fis (.agg (x.cells dx0).toArray :: caps) w (fun r w' => r = (.bool (p x) : Value) ∧ Sep G W Rs w')) (hS0 : Sep G W Rs w) (hid : (L.map idE).Nodup) (hsr : Srt L) (hL : L.length ≤ 1000000) : Ret Tryz.prog 38 [.pointer (some ⟨b, 0, none⟩), .func (.func fis) #[] caps.toArray] w (fun r w' => ∃ (v : Value), r = (v : Value) ∧ Sep G W ((RowE (α := Ev) own 41 v (L.filter p)) :: Rs) w') := by
  obtain ⟨vv, m, R, hbk, hvv, hr⟩ := SetO.sh hb
  obtain ⟨es, clock, hes, hst, hent, hclk⟩ := hr.is
  have hnR : (R.map (·.1)).Nodup := IsMap.nodup hr.is
  have hlen : es.size = R.length := by have := hent.len; simpa using this
  have hpl := hr.perm hnR hid
  have hRL : R.length = L.length := by have := hpl.length_eq; simpa using this
  refine Ue (args := [.pointer (some ⟨b, 0, none⟩), .func (.func fis) #[] caps.toArray]) Tryz.func38 rfl rfl ?_
  refine WI ?_
  refine yq (by kernel_rfl) (fun _ => ?_)
  refine st (zH (v := .func (.func fis) #[] caps.toArray) rfl ?_)
  intro w1 bis hn1
  have hS1 := hS0.new hn1
  refine st (zR (v := (.slice none 0 0)) rfl ?_)
  refine zd ?_
  refine WI ?_
  refine yq (by kernel_rfl) (fun _ => ?_)
  refine st (zr Tryz.zeroValue26 ?_)
  intro w2 bo hn2
  have hS2 := hS1.new hn2
  refine zd ?_
  refine Jd ?_
  refine WI ?_
  refine yq (by kernel_rfl) (fun _ => ?_)
  refine st (ya (v := .pointer (some ⟨b, 0, none⟩)) rfl ?_)
  refine st (zx (b := b) (o := 0) rfl ?_)
  refine st (Va rfl ?_)
  refine st (xu (v := .map (some m)) rT rfl (zb (hS2.gblk hbk) rfl) ?_)
  refine st (zB (f := 57) (vals := [.map (some m)]) (cap := []) rfl rfl Tryz.call57 (QE hS2) ?_)
  rintro _ w3 ⟨bm, rfl, hS3⟩
  refine zd ?_
  refine Qx ?_
  refine XL (gf := 75) (lb := [.pointer (some ⟨bm, 0, none⟩)]) rfl Tryz.call75 ?_
  intro fn tm htm
  have hS4 := (hS3.objNew (Wq w3 (.deferred (some [])))).objNew (Wq _ (.loop { state := .ready, pending := none, fn, tmps := tm, params := #[12], assign := cA (Ze oT), body := cB (Ze oT), defers := w3.heap.size }))
  rw [show (w3.alloc (.deferred (some []))).heap.size = w3.heap.size + 1 from World.size_alloc ..] at hS4
  have hS5 := hS4.rowNil (α := Ev) own 41
  have hS6 := Sep.closeStar (Bs := [Blk bis #[.func (.func fis) #[] caps.toArray] 93, Blk bo #[.slice none 0 0] 26, RowE (α := Ev) own 41 (.slice none 0 0) []]) (hS5.sel 6 [5, 4, 0, 1, 3, 2] (Nat.le_add_left _ _) rfl rfl)
  have hS7 : Sep G W (zaM bis bo fis caps p (Zl R L) [] :: _) _ := Sep.closeEx (A := fun vo => Star [Blk bis #[.func (.func fis) #[] caps.toArray] 93, Blk bo #[vo] 26, RowE (α := Ev) own 41 vo ((([] : List Nat).map (Zl R L)).filter p)]) (.slice none 0 0) hS6
  refine Ret.mono (JW (A := zaM bis bo fis caps p (Zl R L)) hr.gm hes hst rfl (fun j hj => ?_) ?_ hS7) ?_
  · obtain ⟨vd, h1, _, h3⟩ := hr.place hnR hent hj
    exact ⟨_, vd, h1, h3.sl.one⟩
  · intro idx j hj v Fr w8 hv hlt hnd hS8
    obtain ⟨vd, hcv, hok, hrd⟩ := hr.place hnR hent hj
    rw [hcv] at hv
    subst hv
    refine JB (n := 24) htm (by decide) ?_
    refine xN (by kernel_rfl) (fun _ => ?_)
    refine st (zr nT ?_)
    intro w9 b6 hn9
    have hS9 := hS8.new hn9
    refine stn (zp (v := .agg ((Zl R L j).cells vd).toArray) (c' := ((Zl R L j).cells vd).toArray) kT rfl rfl (hS9.blk (i := 0) rfl) (zW ⟨rfl, rfl, rfl, hrd.sl.one, rfl, rfl, rfl, rfl, rfl, rfl, trivial⟩) (Nat.le_of_ble_eq_true rfl) rfl ?_)
    intro w10 hp10
    have hS10 := hS9.put (i := 0) rfl hp10
    refine zd ?_
    refine ⟨_, run_beginRound (hS10.obj (i := 2) rfl) rfl, ?_⟩
    have hS11 := hS10.objPut (i := 2) (o' := .loop { state := .busy, pending := none, fn, tmps := tm, params := #[12], assign := cA (Ze oT), body := cB (Ze oT), defers := w3.heap.size }) rfl rfl
    obtain ⟨vo, hS12⟩ := (hS11.sel 3 [1, 0, 2] (Nat.le_add_left _ _) rfl rfl).openEx
    have hS13 := hS12.openStar
    have hS14 := hS13.sel 5 [3, 0, 1, 2, 4] (Nat.le_add_left _ _) rfl rfl
    refine JQ (kv := [(3, .pointer (some ⟨bis, 0, none⟩)), (5, .pointer (some ⟨bo, 0, none⟩)), (6, .pointer (some ⟨b6, 0, none⟩))]) ⟨rfl, rfl, rfl, trivial⟩ (fun ρ => Qz hfis hIs hrd hok ?_ ?_ hS14)
    · have := List.length_filter_le p (idx.map (Zl R L))
      rw [List.length_map] at this
      omega
    · intro σ' w15 vo' M' hM hS15
      refine ⟨_, _, run_endRound none (hS15.obj (i := 3) rfl), rfl, ?_⟩
      have hS16 := hS15.objPut (i := 3) (o' := .loop { state := .ready, pending := none, fn, tmps := tm, params := #[12], assign := cA (Ze oT), body := cB (Ze oT), defers := w3.heap.size }) rfl rfl
      have hM2 : M' = ((idx ++ [j]).map (Zl R L)).filter p := by
        rw [hM, List.map_append, List.filter_append, List.map_cons, List.map_nil, List.filter_cons, List.filter_nil]
      rw [hM2] at hS16
      have hS17 := Sep.closeStar (Bs := [Blk bis #[.func (.func fis) #[] caps.toArray] 93, Blk bo #[vo'] 26, RowE (α := Ev) own 41 vo' (((idx ++ [j]).map (Zl R L)).filter p)]) hS16
      exact Sep.closeEx (A := fun vo => Star [Blk bis #[.func (.func fis) #[] caps.toArray] 93, Blk bo #[vo] 26, RowE (α := Ev) own 41 vo (((idx ++ [j]).map (Zl R L)).filter p)]) vo' hS17
  · rintro _ w9 ⟨idx, hperm, hS9⟩
    refine ⟨_, run_endLoop (hS9.obj (i := 1) rfl) (by simp), ?_⟩
    have hS10 := hS9.objPut (i := 1) (o' := .loop { state := .exhausted, pending := none, fn, tmps := tm, params := #[12], assign := cA (Ze oT), body := cB (Ze oT), defers := w3.heap.size }) rfl rfl
    obtain ⟨vo, hS11⟩ := hS10.openEx
    have hS12 := hS11.openStar
    have hS13 := hS12.sel 6 [2, 1, 5] (Nat.le_add_left _ _) rfl rfl
    have hpf : ((idx.map (Zl R L)).filter p).Perm (L.filter p) := by
      have h1 := (hperm.map (Zl R L))
      rw [hlen] at h1
      exact (h1.trans hpl).filter p
    refine WH ?_
    refine xN (by kernel_rfl) (fun _ => ?_)
    refine st (xu (v := vo) uR rfl (zb (hS13.blk (i := 1) rfl) rfl) ?_)
    refine st (zB (f := 58) (vals := [vo, .func (.func 59) #[] #[]]) (cap := []) rfl rfl Tryz.call58 (Qr (by have h1 := hpf.length_eq; have h2 := List.length_filter_le p L; omega) hS13) ?_)
    rintro _ w14 ⟨l', rfl, hp', hso', hS14⟩
    refine zd ?_
    refine WH ?_
    refine xN (by kernel_rfl) (fun _ => ?_)
    refine st (xu (v := vo) uR rfl (zb (hS14.blk (i := 1) rfl) rfl) ?_)
    refine st (zR (v := vo) rfl ?_)
    refine zd ?_
    refine JF ?_
    refine ⟨_, run_takeDeferred (hS14.obj (i := 2) rfl), zG Tryz.results38 (show _ = (vo : Value) from rfl) ⟨vo, rfl, ?_⟩⟩
    have hS15 := hS14.objPut (i := 2) (o' := .deferred none) rfl rfl
    have hl' : l' = L.filter p := XM (hp'.trans hpf) (hsr.filter p) hso'
    rw [hl'] at hS15
    exact hS15.sel 3 [0] (Nat.le_add_left _ _) rfl rfl

end Go.Proofs.YtbbabhaalmkbkaaGreatDoor
set_option maxRecDepth 8000
set_option maxHeartbeats 4000000
namespace Go.Proofs.YtbbabhaalmkbkaaGreatDoor
open Go.Proofs Go.RowKit

def ZK (key : Int) (e : Ev) : Bool := (!decide (key = 0)) && decide (e.key = key)
def yN (L : List Ev) (key : Int) : Option Ev := L.find? (ZK key)
def DepO (d : Value) (l : List Int) : HP := ⟨fun w f => RdS w (fun b => f b ∧ Soft w b) d l, fun h hf => h.mono fun b hb hlt => ⟨(hf b hb.1 hlt).1, (hf b hb.1 hlt).2, hb.2.keep (hf b hb.1 hlt).1⟩⟩
theorem DepO.rd {d : Value} {l : List Int} {w : World} {f : Nat → Prop} (h : (DepO d l).p w f) : RdS w f d l := RdS.weak h (fun _ _ hb => hb.1)
section
variable {G : Nat → Prop} {W w : World} {As : List HP} {T : TypeId} {v : Value} {l : List Ev}
theorem Sep.depo (h : Sep G W (RowE (α := Ev) own T v l :: As) w) {i : Nat} (hi : i < l.length) : ∃ d, CellsAt w (sb v) (so v + i * 10) ((l.getD i default).cells d) ∧ (l.getD i default).Ok ∧ Sep G W (DepO d (l.getD i default).deps :: As) w := by
  obtain ⟨f, hA, hfl, hT⟩ := h.take (i := 0) rfl
  obtain ⟨cs, hc, he⟩ := RowE.elem hA hi
  rw [← zA default hi] at he
  obtain ⟨d, rfl, hd, ho⟩ := he
  refine ⟨d, hc, ho, hT w _ f (Chg.refl _ _) ?_ (fun _ hb => .inl hb)⟩
  exact RdS.weak hd (fun b _ hb => hb)
theorem Sep.depSl {d : Value} {l : List Int} (h : Sep G W As w) {i : Nat} (hi : As[i]? = some (DepO d l)) : IsSl d l.length := by
  obtain ⟨f, h1, _⟩ := h.get hi; exact h1.sl
theorem Sep.depoNil (h : Sep G W As w) : Sep G W (DepO (.slice none 0 0) [] :: As) w := h.push (Chg.refl _ _) (f := fun _ => False) (RdS.nil _ _) (fun _ h => h.elim)
end
theorem zaA {G : Nat → Prop} {W w : World} {Rs : List HP} {e : Ev} {de0 : Value} (hde0 : RdS W G de0 e.deps) (oe : e.Ok) (hS0 : Sep G W Rs w) : Ret Tryz.prog 39 [.agg (e.cells de0).toArray] w (fun r w' => r = (.bool true : Value) ∧ Sep G W Rs w') := by
 have hde0s : _ * 8 ≤ _ := hde0.small
 refine zi (args := [.agg (e.cells de0).toArray]) Tryz.func39 rfl rfl ?_
 refine za (R0 fun _ => st (zH (v := .agg (e.cells de0).toArray) rfl ?_))
 intro w3 b2 a
 refine st (aS (.bool false) (zd (za (R0 fun _ => st (aS (.bool true) (zd (zk (zG Tryz.results39 (show _ = (.bool true : Value) from rfl) ?_))))))))
 refine ⟨rfl, ((hS0.new a).s1_)⟩

theorem zaa {G : Nat → Prop} {W w : World} {Rs : List HP} {e : Ev} {de0 : Value} (hde0 : RdS W G de0 e.deps) (oe : e.Ok) {bx : Nat} {key : Int} (hbx : (Blk bx #[.int .i64 key] 3).p W G) (hS0 : Sep G W Rs w) : Ret Tryz.prog 52 [.agg (e.cells de0).toArray, .pointer (some ⟨bx, 0, none⟩)] w (fun r w' => r = (.bool (ZK key e) : Value) ∧ Sep G W Rs w') := by
 have hde0s : _ * 8 ≤ _ := hde0.small
 refine zi (args := [.agg (e.cells de0).toArray, Ix bx 0]) Tryz.func52 rfl rfl ?_
 refine za (R0 fun _ => st (zH (v := .agg (e.cells de0).toArray) rfl ?_))
 intro w3 b2 g
 have d := hS0.new g
 refine st (aS (.bool false) (zd (za (zv kr (st (lD (Iv key) lT rfl (zb (d.gblk hbx) rfl) (st (yr (k := .i64) (a := key) (b := 0) rfl rfl (st (mV (.bool (!decide (key = 0))) (stc (V := Ix b2 9) rfl rfl (fun h => ?_) ?_)))))))))))
 have hl6 := zC h
 exact XB rfl ⟨rfl, rfl⟩
 refine stc (V := Iv (e.key)) rfl rfl (fun f => ?_) ?_
 have hl8 := zC f
 exact lD (Iv (e.key)) lT (if_pos f) (zb (d.b0) rfl) ⟨rfl, rfl⟩
 refine stc (V := Iv key) rfl rfl (fun i => ?_) ?_
 have hl10 := zC i
 exact lD (Iv key) lT rfl (zb (d.gblk hbx) rfl) ⟨rfl, rfl⟩
 refine stc (V := .bool (decide (e.key = key))) rfl rfl (fun c => ?_) ?_
 have hl12 := zC c
 exact zN (k := .i64) (a := e.key) (b := key) (if_pos c) (if_pos c) ⟨rfl, rfl⟩
 refine st (zy (b := !decide (key = 0)) (b' := decide (e.key = key)) rfl (fun hbp => (if_pos hbp)) (st (aS (.bool ((!decide (key = 0)) && (decide (e.key = key)))) (zd (zk (zG Tryz.results52 (show _ = (.bool ((!decide (key = 0)) && (decide (e.key = key))) : Value) from rfl) ?_))))))
 refine ⟨rfl, (d.s1_)⟩

theorem zbm {G : Nat → Prop} {W w : World} {Rs : List HP} {b : Nat} {n : Nat} {L : List Ev} (hb : (SetO b n L).p W G) (hS0 : Sep G W Rs w) (hid : (L.map idE).Nodup) (hsr : Srt L) (hL : L.length ≤ 1000000) : Ret Tryz.prog 15 [.pointer (some ⟨b, 0, none⟩)] w (fun r w' => ∃ (v : Value), r = (v : Value) ∧ Sep G W ((RowE (α := Ev) own 41 v L) :: Rs) w') := by
 refine zi (args := [Ix b 0]) Tryz.func15 rfl rfl ?_
 obtain ⟨vv1, m2, R3, hb4, e, hr6⟩ := SetO.sh hb
 have hsm7 : (zu n L).length * 8 ≤ 140737488355328 := e.small
 refine za (R0 fun _ => st (aS (Iz) (zd (za (R0 fun _ => st (mV (Ix b 0) (st (cL vR (UH (p := fun _ => true) (caps := []) hb Tryz.call39 (fun f g h => zaA f g h) hS0 (hid) (hsr) (hL)) ?_))))))))
 rintro c w9 ⟨_, rfl, a⟩
 have d := a.r0
 have hr11s : _ * 96 ≤ _ := d.2
 refine st (aS c (zd (zk (zG Tryz.results15 (show _ = (c : Value) from rfl) ?_))))
 rw [List.filter_eq_self.2 (fun _ _ => rfl)] at a
 refine ⟨c, rfl, a⟩

end Go.Proofs.YtbbabhaalmkbkaaGreatDoor
set_option maxRecDepth 8000
set_option maxHeartbeats 4000000
namespace Go.Proofs.YtbbabhaalmkbkaaGreatDoor
open Go.Proofs Go.RowKit

theorem QX {L : List Ev} {key : Int} (h : ((L.filter (ZK key)).length : Nat) = 0) : yN L key = none := by
  have h1 := List.length_eq_zero_iff.1 h
  unfold yN
  rw [← List.head?_filter, h1]; rfl
theorem KX {L : List Ev} {key : Int} (h : 0 < (L.filter (ZK key)).length) : yN L key = some ((L.filter (ZK key)).getD 0 default) := by
  unfold yN
  rw [← List.head?_filter]
  cases hl : L.filter (ZK key) with
  | nil => rw [hl] at h; exact absurd h (Nat.lt_irrefl 0)
  | cons x l => rfl
theorem Ji {G : Nat → Prop} {W w : World} {Rs : List HP} {b : Nat} {n : Nat} {L : List Ev} (hb : (SetO b n L).p W G) {key : Int} (hkey : InR key) (hS0 : Sep G W Rs w) (hid : (L.map idE).Nodup) (hsr : Srt L) (hL : L.length ≤ 1000000) : Ret Tryz.prog 28 [.pointer (some ⟨b, 0, none⟩), .int .i64 (key)] w (fun r w' => ∃ (d : Value), r = (.tuple #[.agg (((yN L key).getD default).cells d).toArray, .bool (yN L key).isSome] : Value) ∧ Sep G W ((DepO d (((yN L key).getD default).deps)) :: Rs) w') := by
 refine zi (args := [Ix b 0, Iv key]) Tryz.func28 rfl rfl ?_
 let S := ((⟨0, 0, 0, [], 0, 0, 0, 0, 0, 0⟩ : Ev).cells (Iz))
 obtain ⟨vv1, m2, R3, hb4, K, hr6⟩ := SetO.sh hb
 have hsm7 : (zu n L).length * 8 ≤ 140737488355328 := K.small
 refine za (R0 fun _ => st (zH (v := Iv key) rfl ?_))
 intro w10 t M
 refine st (zr nT ?_)
 intro w14 l u
 refine st (aS (.bool false) (zd (za (R0 fun _ => st (mV (Ix b 0) (st (xQ (vals := [Ix t 0]) rfl ?_)))))))
 obtain ⟨G17, x, y, z, m⟩ := (((hS0.new M).new u).mv1).lend
 refine st (cL vR (UH (p := ZK key) (caps := [Ix t 0]) (HP.base hb y) Tryz.call52 (fun N O P => zaa N O x P) z (hid) (hsr) (hL)) ?_)
 rintro h w24 ⟨_, rfl, c⟩
 have f := c.r0
 have hr26s : _ * 96 ≤ _ := f.2
 refine st (aS h (zd (za (za (R0 fun _ => st (mV h (st (zL (n := (L.filter (ZK key)).length) kR rfl f.1 (st (zN (k := .i64) (a := (((L.filter (ZK key)).length : Nat) : Int)) (b := 0) rfl rfl (zd ?_)))))))))))
 cases e : decide ((((L.filter (ZK key)).length : Nat) : Int) = 0)
 have e := fD e
 refine zg rfl (zl (za (R0 fun _ => st (mV h ?_))))
 have A : 0 < (L.filter (ZK key)).length := bo
 refine st (zn (k := 10) (i := 0) kR kT rfl f.1 rfl A ?_)
 have B : 0 < (L.filter (ZK key)).length := by omega
 obtain ⟨j, C, ok31, g⟩ := c.depo B
 refine st (zf (k := 10) mT kT rfl rfl C ?_)
 have s := (DepO.rd (Sep.get g (i := 0) rfl).choose_spec.1).sl
 refine stn (zp (v := .agg (((L.filter (ZK key)).getD 0 default).cells j).toArray) (c' := (((L.filter (ZK key)).getD 0 default).cells j).toArray) kT rfl rfl (g.b1) (zW ⟨rfl, rfl, rfl, s.one, rfl, rfl, rfl, rfl, rfl, rfl, trivial⟩) yqc rfl ?_)
 intro Q D
 have o := g.pt1 D
 refine st (aS (.bool true) (zd (zk (Zv (b := l) wR mT kT rfl rfl (CellsAt.all (o.b1)) (show _ = (.bool true : Value) from rfl) ?_))))
 have E := m _ _ o
 have F : Sep G W ((DepO j (((L.filter (ZK key)).getD 0 default).deps)) :: Rs) Q := E.sel 3 [1] (Nat.le_add_left _ _) rfl rfl
 rw [KX (L := L) (key := key) (by omega)]
 refine ⟨j, ?_, F⟩
 rfl
 have e := tD e
 refine zh rfl (za (R0 fun _ => ?_))
 have ok39 : Ev.Ok (⟨0, 0, 0, [], 0, 0, 0, 0, 0, 0⟩ : Ev) := ⟨(show InR (0) from dc), (show InR (0) from dc), (show InR (0) from dc), (show InR (0) from dc), (show InR (0) from dc), (show InR (0) from dc), (show InR (0) from dc), (show InR (0) from dc), (show InR (0) from dc)⟩
 refine st (zI (parts' := []) (v := .agg S.toArray) rfl (by simp +zetaDelta [Instr.build, Instr.fill, Ev.cells, go_sem, Mv.cells, Fld.cells, Typ.cells, Prj.cells, Dcl.cells, Cel.cells, AskR.cells, CelS.cells, Ev.cells, Ent.cells, Sta.cells]) (stn (zp (v := .agg S.toArray) (c' := S.toArray) kT rfl rfl (c.b1) (zW ⟨rfl, rfl, rfl, rfl, rfl, rfl, rfl, rfl, rfl, rfl, trivial⟩) yqc rfl ?_)))
 intro R H
 have q := c.pt1 H
 refine st (aS (.bool false) (zd (zk (Zv (b := l) wR mT kT rfl rfl (CellsAt.all (q.b1)) (show _ = (.bool false : Value) from rfl) ?_))))
 have I := m _ _ q
 have J : Sep G W ((DepO (Iz) []) :: (Blk t #[Iv key] 3) :: (RowE (α := Ev) own 41 h (L.filter (ZK key))) :: (Blk l S.toArray 41) :: Rs) R := I.depoNil
 rw [QX (L := L) (key := key) (by omega)]
 refine ⟨(Iz), ?_, (J.s4_a)⟩
 rfl

def xU (e : Ev) : List Ev → List Ev
  | [] => [e]
  | x :: l => if ltE e x = true then e :: x :: l else x :: xU e l
def Kb (n : Nat) (L : List Ev) (e : Ev) : Bool := (List.range n).all (xm L e)
def Zs (n : Nat) (L : List Ev) (e : Ev) : Int := if yo e n ≠ 0 then yo e n else if (yg L (e.origin, e.seq)).isSome = true then 16 else if e.seq ≠ ((ZB L e.origin.toNat : Nat) : Int) + 1 then 9 else if Kb n L e = true then 0 else 9
def addL (n : Nat) (L : List Ev) (e : Ev) : List Ev := if Zs n L e = 0 then xU e L else L
section
variable {n : Nat} {L : List Ev} {e : Ev}
theorem zaD (h : ¬ yo e n = 0) : Zs n L e = yo e n := by unfold Zs; rw [if_pos h]
theorem zaK (h : yo e n = 0) (h2 : (yg L (e.origin, e.seq)).isSome = true) : Zs n L e = 16 := by unfold Zs; rw [if_neg (by simpa using h), if_pos h2]
theorem zaH (h : yo e n = 0) (h2 : (yg L (e.origin, e.seq)).isSome = false) (h3 : ¬ e.seq = ((ZB L e.origin.toNat : Nat) : Int) + 1) : Zs n L e = 9 := by unfold Zs; rw [if_neg (by simpa using h), if_neg (by rw [h2]; decide), if_pos h3]
theorem zaJ (h : yo e n = 0) (h2 : (yg L (e.origin, e.seq)).isSome = false) (h3 : e.seq = ((ZB L e.origin.toNat : Nat) : Int) + 1) {k : Nat} (hk : k < n) (h4 : xm L e k = false) : Zs n L e = 9 := by
  unfold Zs
  rw [if_neg (by simpa using h), if_neg (by rw [h2]; decide), if_neg (by simpa using h3), if_neg (fun h5 => ?_)]
  have := (List.all_eq_true.1 h5) k (List.mem_range.2 hk)
  rw [h4] at this; cases this
theorem zaG (h : yo e n = 0) (h2 : (yg L (e.origin, e.seq)).isSome = false) (h3 : e.seq = ((ZB L e.origin.toNat : Nat) : Int) + 1) (h4 : ∀ i, i < n → xm L e i = true) : Zs n L e = 0 := by
  unfold Zs
  rw [if_neg (by simpa using h), if_neg (by rw [h2]; decide), if_neg (by simpa using h3), if_pos (show Kb n L e = true from List.all_eq_true.2 fun i hi => h4 i (List.mem_range.1 hi))]
theorem YM (h : ¬ Zs n L e = 0) : addL n L e = L := if_neg h
theorem QN (h : Zs n L e = 0) : addL n L e = xU e L := if_pos h
theorem Xj (h : yo e n = 0) : (0 ≤ e.origin ∧ e.origin < n) ∧ (1 ≤ e.seq ∧ 1 ≤ e.lam) ∧ e.deps.length = n ∧ e.deps.getD e.origin.toNat 0 = e.seq - 1 := by
  unfold yo at h
  split at h
  · cases h
  · rename_i h1
    split at h
    · cases h
    · rename_i h2
      have h1' : (((((decide (e.origin < 0) || decide ((n : Int) ≤ e.origin)) || decide (min e.seq e.lam < 1)) || decide (min e.agg e.key < 0)) || !decide (((e.deps.length : Nat) : Int) = n)) || YF e.deps) = false := by simpa using h1
      simp only [Bool.or_eq_false_iff, decide_eq_false_iff_not, Bool.not_eq_false', decide_eq_true_eq] at h1'
      have h2' : e.deps.getD e.origin.toNat 0 = e.seq - 1 := by simpa using h2
      obtain ⟨⟨⟨⟨⟨a1, a2⟩, a3⟩, a4⟩, a5⟩, a6⟩ := h1'
      exact ⟨⟨by omega, by omega⟩, ⟨by omega, by omega⟩, by omega, h2'⟩
theorem insE_perm : ∀ {L : List Ev}, (xU e L).Perm (e :: L)
  | [] => List.Perm.refl _
  | x :: l => by
    unfold xU
    split
    · exact List.Perm.refl _
    · exact ((insE_perm (L := l)).cons x).trans (List.Perm.swap ..)
theorem Kz : (xU e L).length = L.length + 1 := insE_perm.length_eq
theorem UD {o : Nat} : ZB L o ≤ L.length := List.length_filter_le ..
theorem Ww {o : Nat} : ZB (xU e L) o = ZB L o + if e.origin = (o : Int) then 1 else 0 := by
  unfold ZB
  rw [((insE_perm (e := e) (L := L)).filter _).length_eq, List.filter_cons]
  by_cases h : e.origin = (o : Int)
  · rw [if_pos (by simpa using h), if_pos h]; rfl
  · rw [if_neg (by simpa using h), if_neg h]; rfl
theorem zaj (h0 : 0 ≤ e.origin) (h1 : e.origin < n) : (zu n L).set e.origin.toNat (((ZB L e.origin.toNat : Nat) : Int) + 1) = zu n (xU e L) := by
  refine List.ext_getElem (by simp [zu]) (fun i h2 h3 => ?_)
  simp only [List.length_set, Yn] at h2
  rw [List.getElem_set]
  simp only [zu, List.getElem_map, List.getElem_range]
  rw [Ww]
  by_cases h : e.origin.toNat = i
  · rw [if_pos h, if_pos (by omega), ← h]; omega
  · rw [if_neg h, if_neg (by omega)]; omega
theorem Kc {A B : List Ev} (h : A.Perm B) : zK A = zK B := by
  unfold zK
  induction h with
  | nil => rfl
  | cons x _ ih => simp only [List.foldr_cons, ih]
  | swap x y l => simp only [List.foldr_cons]; omega
  | trans _ _ h1 h2 => exact h1.trans h2
theorem JY : max (zK L) e.lam = zK (xU e L) := by rw [Kc insE_perm]; rfl
theorem Vz (h : (yg L (e.origin, e.seq)).isSome = false) : Zr (yg L) (e.origin, e.seq) e = yg (xU e L) := by
  funext k
  unfold Zr
  induction L with
  | nil =>
    simp only [xU, yg, List.find?_cons, List.find?_nil]
    obtain ⟨a, b⟩ := k
    by_cases hk : (e.origin, e.seq) = (a, b)
    · rw [if_pos hk]; cases hk; simp
    · rw [if_neg hk]; simp only [Prod.mk.injEq] at hk; simp [hk]
  | cons x l ih =>
    have hx : ¬ (x.origin = e.origin ∧ x.seq = e.seq) ∧ (yg l (e.origin, e.seq)).isSome = false := by
      unfold yg at h
      rw [List.find?_cons] at h
      by_cases hx : x.origin = e.origin ∧ x.seq = e.seq
      · rw [decide_eq_true hx] at h; cases h
      · rw [decide_eq_false hx] at h; exact ⟨hx, h⟩
    obtain ⟨a, b⟩ := k
    have ih := ih hx.2
    simp only [xU]
    by_cases hlt : ltE e x = true
    · rw [if_pos hlt]
      by_cases hk : (e.origin, e.seq) = (a, b)
      · rw [if_pos hk]; cases hk; simp [yg]
      · rw [if_neg hk]; simp only [Prod.mk.injEq] at hk; simp [yg, hk]
    · rw [if_neg hlt]
      unfold yg at ih ⊢
      rw [List.find?_cons, List.find?_cons]
      by_cases hxa : x.origin = a ∧ x.seq = b
      · have hk : ¬ (e.origin, e.seq) = (a, b) := fun hk => by cases hk; exact hx.1 hxa
        rw [if_neg hk, decide_eq_true hxa]
      · rw [decide_eq_false hxa]; exact ih
end
end Go.Proofs.YtbbabhaalmkbkaaGreatDoor
set_option maxRecDepth 8000
set_option maxHeartbeats 4000000
namespace Go.Proofs.YtbbabhaalmkbkaaGreatDoor
open Go.Proofs Go.RowKit
theorem yqe {p : Prop} (h : p := by first | omega | (refine ⟨?_, ?_⟩ <;> omega)) : p := h

section
variable {G : Nat → Prop} {W w : World} {As : List HP} {vd : Value} {e : Ev}
theorem zbe (ho : e.Ok) (h : Sep G W (RowE (α := Int) own 3 vd e.deps :: As) w) : Sep G W (EV (.agg (e.cells vd).toArray) e :: As) w := h.impl (i := 0) rfl (fun _ h => ⟨vd, rfl, ho, h⟩)
theorem Qo {m : Nat} {X : Int × Int → Option Ev} {k : Int × Int} (h : Sep G W (MapO yI EV m X :: As) w) (hX : (X k).isSome = false) : Sep G W (xE yI EV YB m X k YB :: As) w := by
  obtain ⟨v, hv, h1⟩ := h.mapoTake YB k
  have hn : X k = none := by rwa [Option.isSome_eq_false_iff, Option.isNone_iff_eq_none] at hX
  obtain rfl := hv hn
  exact h1.sel 2 [0] (Nat.le_add_left _ _) rfl rfl
end
theorem zbb {G : Nat → Prop} {W w : World} {Rs : List HP} {b : Nat} {n : Nat} {L : List Ev} {e : Ev} {de0 : Value} (hde0 : RdS W G de0 e.deps) (oe : e.Ok) (hS0 : Sep G W ((SetO b n L) :: Rs) w) (hL : L.length ≤ 1000000) (hlen : ∀ y ∈ L, y.deps.length = n) : Ret Tryz.prog 14 [.pointer (some ⟨b, 0, none⟩), .agg (e.cells de0).toArray] w (fun r w' => ∃ (L1 : List Ev), r = (.int .i64 ((Zs n L e)) : Value) ∧ (L1 = addL n L e) ∧ Sep G W ((SetO b n L1) :: Rs) w') := by
 have hde0s : _ * 8 ≤ _ := hde0.small
 refine zi (args := [Ix b 0, .agg (e.cells de0).toArray]) Tryz.func14 rfl rfl ?_
 refine za ?_
 obtain ⟨G1, cO, cP, dr, Z⟩ := hS0.lend
 obtain ⟨M, m8, R9, N, F, ae⟩ := SetO.sh cO
 have hsm13 : (zu n L).length * 8 ≤ 140737488355328 := F.small
 have af : (zu n L).length = n := Yn
 refine R0 fun _ => st (zH (v := .agg (e.cells de0).toArray) rfl ?_)
 intro w16 q cS
 let ad := Blk q (e.cells de0).toArray 41
 refine st (aS (Iv 0) (zd (za (za ?_))))
 refine WD4 ((fun B => WF [fun vals x => Sep G1 w (B :: Rs) x, fun vals x => (vals 6 = (Iv ((yo e (((zu n L).length : Nat) : Int))) : Value)) ∧ Sep G1 w (B :: Rs) x]) ad) (AF [Vl 0 (.agg (e.cells de0).toArray), Vl 1 (Ix b 0), Vl 2 (Ix b 0), Vl 3 (Ix b 0), Vl 4 (M), Vl 5 (Iw ((zu n L).length)), fun _ => True, Vl 7 (Iv ((yo e (((zu n L).length : Nat) : Int))))]) [[], [], [1], [1, 2], [1, 2, 3], [1, 2, 3, 4], (rg 6), (rg 7)] [6] [(0, 0), (0, 0), (0, 0), (0, 0), (0, 0), (0, 0), (0, 0), (1, 1)] (dr.new cS) ⟨ob1 0 fun _ _ (cT : Sep _ _ _ _) _ => obl rfl (zf (k := 10) mT kT rfl rfl (CellsAt.all (cT.b0)) dR), fun _ _ _ _ _ _ _ => obl rfl (mV (Ix b 0) dR), fun _ _ _ _ _ _ cU => obl rfl (zx (b := b) (o := 0) (cU 1 dc) dR), fun _ _ _ _ _ _ bf => obl rfl (XD (bf 2 dc) dR), ob1 0 fun _ _ (bg : Sep _ _ _ _) bh => obl rfl (lD M lR (bh 3 dc) (zb (bg.gblk N) rfl) dR), ob1 0 fun _ _ _ bi => obl rfl (zL (n := (zu n L).length) sT (bi 4 dc) F.sl dR), ?_, ?_, trivial⟩ ?_
 refine ob1 0 fun vals _ (cV : Sep _ _ _ _) aJ => (obl rfl ((zB (f := 35) (vals := [.agg (e.cells de0).toArray, Iw ((zu n L).length)]) (cap := []) rfl (yE ⟨(aJ 0 dc), (aJ 5 dc), trivial⟩) Tryz.call35 (QP (e := e) (n := (((zu n L).length : Nat) : Int)) (RdS.base hde0 cP) oe (by have : (zu n L).length * 8 ≤ 140737488355328 := F.small; omega) cV) ?_)))
 rintro _ w70 ⟨rfl, cW⟩
 exact fun D P I => ⟨(And.intro P cW), trivial⟩
 refine ob1 1 fun _ _ bj _ => ?_
 obtain ⟨aK, hS129⟩ := bj
 exact obl rfl (zR (v := Iv ((yo e (((zu n L).length : Nat) : Int)))) aK dR)
 intro vals w130 bk bl
 obtain ⟨aK, ag⟩ := bk
 have cX := bl 7 dc
 refine zT (kv := [(0, Ix b 0), (1, .agg (e.cells de0).toArray), (3, Ix q 0), (4, Iv 0), (5, Iv ((yo e (((zu n L).length : Nat) : Int))))]) ⟨rfl, rfl, rfl, rfl, (by exact cX), trivial⟩ (fun ρw130 => (zd (za (R0 fun _ => st (mV (Iv ((yo e (((zu n L).length : Nat) : Int)))) (st (yr (k := .i64) (a := (yo e (((zu n L).length : Nat) : Int))) (b := 0) rfl rfl (zd ?_))))))))
 cases m : !decide ((yo e (((zu n L).length : Nat) : Int)) = 0)
 have m := yp m
 rw [af] at m
 obtain ⟨⟨ds, cY⟩, ⟨hs9, hl9⟩, dt, hq9⟩ := Xj m
 have O : (zu n L).getD e.origin.toNat 0 = ((ZB L e.origin.toNat : Nat) : Int) := UE om
 have hcl9 := UD (L := L) (o := e.origin.toNat)
 refine zg rfl (zl (za (za ?_)))
 obtain ⟨s, g, hx138, ah, hok140, ai, aj⟩ := ae.at_ (e.origin, e.seq)
 have hsm143 : s.deps.length * 8 ≤ 140737488355328 := ai.small
 refine WD4 ((fun B => WF [fun vals x => Sep G1 w (B :: Rs) x, fun vals x => ∃ (l : Nat), (vals 10 = (Ix l 0 : Value)) ∧ Sep G1 w ((Blk l #[Iv 0, Iv 0, Iv 0, (Iz), Iv 0, Iv 0, Iv 0, Iv 0, Iv 0, Iv 0] 41) :: B :: Rs) x, fun vals x => ∃ (l : Nat), (vals 10 = (Ix l 0 : Value)) ∧ Sep G1 w ((Blk l (s.cells g).toArray 41) :: B :: Rs) x]) ad) (AF [Vl 0 (Ix b 0), Vl 1 (Ix b 0), Vl 2 (Ix b 1), Vl 3 (.map (some m8)), Vl 4 (Ix q 0), Vl 5 (.agg #[Iv (e.origin), Iv (e.seq)]), Vl 6 (.tuple #[.agg (s.cells g).toArray, .bool ((yg L (e.origin, e.seq)).isSome)]), Vl 7 (.tuple #[.agg (s.cells g).toArray, .bool ((yg L (e.origin, e.seq)).isSome)]), Vl 8 (.agg (s.cells g).toArray), Vl 9 (.bool ((yg L (e.origin, e.seq)).isSome)), fun _ => True, fun _ => True, Vl 12 (.bool ((yg L (e.origin, e.seq)).isSome))]) [[], [0], [0, 1], [0, 1, 2], [], [4], (rg 6), (rg 7), (rg 8), (rg 8), [], [0, 1, 2, 3, 4, 5, 6, 7, 8, 10], (rg 12)] [10, 11] [(0, 1), (0, 1), (0, 1), (0, 1), (0, 1), (0, 1), (0, 1), (0, 1), (0, 1), (0, 2), (0, 0), (1, 1), (2, 2)] ag ⟨fun _ _ _ _ _ _ _ => obl rfl (mV (Ix b 0) dR), fun _ _ _ _ _ _ bm => obl rfl (zx (b := b) (o := 0) (bm 0 dc) dR), fun _ _ _ _ _ _ bn => obl rfl (Va (bn 1 dc) dR), ?_, fun _ _ _ _ _ _ _ => obl rfl (yy rfl dR), ?_, ?_, fun _ _ _ _ _ _ bp => obl rfl (ya (v := .tuple #[.agg (s.cells g).toArray, .bool ((yg L (e.origin, e.seq)).isSome)]) (bp 6 dc) dR), fun _ _ _ _ _ _ bq => obl rfl (zj (vs := [.agg (s.cells g).toArray, .bool ((yg L (e.origin, e.seq)).isSome)]) (i := 0) (v := .agg (s.cells g).toArray) (bq 7 dc) rfl dR), fun _ _ _ _ _ _ br => obl rfl (zj (vs := [.agg (s.cells g).toArray, .bool ((yg L (e.origin, e.seq)).isSome)]) (i := 1) (v := .bool ((yg L (e.origin, e.seq)).isSome)) (br 7 dc) rfl dR), ?_, ?_, fun _ _ _ _ _ _ bs => obl rfl (zR (v := .bool ((yg L (e.origin, e.seq)).isSome)) (bs 9 dc) dR), trivial⟩ ?_
 refine fun Q _ _ cZ da ak al => ?_
 have hkk : Q = 0 ∨ Q = 1 := by have h1 : 0 ≤ Q := cZ; have h2 : Q ≤ 1 := da; omega
 rcases hkk with rfl | rfl
 have bv : Sep _ _ _ _ := ak
 exact obl rfl (lD (.map (some m8)) rT (al 2 dc) (zb (bv.gblk N) rfl) dR)
 obtain ⟨l, E, bw⟩ := ak
 exact obl rfl (lD (.map (some m8)) rT (al 2 dc) (zb (bw.gblk N) rfl) dR)
 refine fun R _ _ db dd am an => ?_
 have hkk : R = 0 ∨ R = 1 := by have h1 : 0 ≤ R := db; have h2 : R ≤ 1 := dd; omega
 rcases hkk with rfl | rfl
 have bx : Sep _ _ _ _ := am
 exact obl rfl (zf (k := 2) (cs := [Iv (e.origin), Iv (e.seq)]) mR nR rfl (an 4 dc) (CellsAt.sub (CellsAt.all (bx.b0)) 0 (cs2 := [Iv (e.origin), Iv (e.seq)]) rfl) dR)
 obtain ⟨l, E, bz⟩ := am
 exact obl rfl (zf (k := 2) (cs := [Iv (e.origin), Iv (e.seq)]) mR nR rfl (an 4 dc) (CellsAt.sub (CellsAt.all (bz.b1)) 0 (cs2 := [Iv (e.origin), Iv (e.seq)]) rfl) dR)
 refine fun S _ _ de df ao J => ?_
 have hkk : S = 0 ∨ S = 1 := by have h1 : 0 ≤ S := de; have h2 : S ≤ 1 := df; omega
 rcases hkk with rfl | rfl
 have bA : Sep _ _ _ _ := ao
 exact obl rfl (Yq (k := (e.origin, e.seq)) bA ae K2i pR nT (J 3 dc) (show _ = (.agg #[Iv (e.origin), Iv (e.seq)] : Value) from (J 5 dc)) ah aj dR)
 obtain ⟨l, E, bB⟩ := ao
 exact obl rfl (Yq (k := (e.origin, e.seq)) bB ae K2i pR nT (J 3 dc) (show _ = (.agg #[Iv (e.origin), Iv (e.seq)] : Value) from (J 5 dc)) ah aj dR)
 refine ob1 0 fun _ _ (bC : Sep _ _ _ _) _ => (obl rfl ((zr nT ?_)))
 intro w225 l bD
 exact fun D P I => ⟨(Exists.intro l (And.intro P (bC.new bD))), trivial⟩
 refine ob1 1 fun _ _ bE bF => ?_
 obtain ⟨l, E, ap⟩ := bE
 refine obl rfl ((zp (v := .agg (s.cells g).toArray) (c' := (s.cells g).toArray) kT E (bF 8 dc) (ap.b0) (zW ⟨rfl, rfl, rfl, ai.sl.one, rfl, rfl, rfl, rfl, rfl, rfl, trivial⟩) yqc rfl ?_))
 intro w236 bG
 exact fun D P I => ⟨(Exists.intro l (And.intro ((I 10 dc).trans E) (ap.pt0 bG))), trivial⟩
 intro vals w332 bH bI
 obtain ⟨l, E, aq⟩ := bH
 let bu := Blk l (s.cells g).toArray 41
 have dg := bI 12 dc
 refine zT (kv := [(0, Ix b 0), (1, .agg (e.cells de0).toArray), (3, Ix q 0), (4, Iv 0), (5, Iv ((yo e (((zu n L).length : Nat) : Int)))), (16, Iv ((yo e (((zu n L).length : Nat) : Int)))), (17, .bool false), (7, .bool ((yg L (e.origin, e.seq)).isSome))]) ⟨rfl, rfl, rfl, rfl, rfl, rfl, rfl, (by exact dg), trivial⟩ (fun ρw332 => (zd (za (R0 fun _ => st (mV (.bool ((yg L (e.origin, e.seq)).isSome)) (zd ?_))))))
 cases z : (yg L (e.origin, e.seq)).isSome
 refine zg rfl (zl (za (za ?_)))
 refine WD4 (WF [fun vals x => Sep G1 w (bu :: ad :: Rs) x]) (AF [Vl 0 (Ix q 0), Vl 1 (Ix q 1), Vl 2 (Iv (e.seq)), Vl 3 (Ix b 0), Vl 4 (Ix b 0), Vl 5 (Ix b 0), Vl 6 (M), Vl 7 (Ix q 0), Vl 8 (Ix q 0), Vl 9 (Iv (e.origin)), Vl 10 (Ix (sb M) (so M + e.origin.toNat * 1)), Vl 11 (Iv (((zu n L).getD e.origin.toNat 0))), Vl 12 (Iv (((zu n L).getD e.origin.toNat 0) + 1)), Vl 13 (.bool (!decide (e.seq = (((zu n L).getD e.origin.toNat 0) + 1))))]) [[], [0], [0, 1], [], [3], [3, 4], [3, 4, 5], [], [7], [7, 8], [3, 4, 5, 6, 7, 8, 9], [3, 4, 5, 6, 7, 8, 9, 10], [3, 4, 5, 6, 7, 8, 9, 10, 11], (rg 13)] [] [(0, 0), (0, 0), (0, 0), (0, 0), (0, 0), (0, 0), (0, 0), (0, 0), (0, 0), (0, 0), (0, 0), (0, 0), (0, 0), (0, 0)] aq ⟨fun _ _ _ _ _ _ _ => obl rfl (yy rfl dR), fun _ _ _ _ _ _ bJ => obl rfl (Zk (bJ 0 dc) dR), ob1 0 fun _ _ (bK : Sep _ _ _ _) bL => obl rfl (lD (Iv (e.seq)) lT (bL 1 dc) (zb (bK.b1) rfl) dR), fun _ _ _ _ _ _ _ => obl rfl (mV (Ix b 0) dR), fun _ _ _ _ _ _ bM => obl rfl (zx (b := b) (o := 0) (bM 3 dc) dR), fun _ _ _ _ _ _ bN => obl rfl (XD (bN 4 dc) dR), ob1 0 fun _ _ (bO : Sep _ _ _ _) bP => obl rfl (lD M lR (bP 5 dc) (zb (bO.gblk N) rfl) dR), fun _ _ _ _ _ _ _ => obl rfl (yy rfl dR), fun _ _ _ _ _ _ bQ => obl rfl (xz (bQ 7 dc) dR), ob1 0 fun _ _ (bR : Sep _ _ _ _) bS => obl rfl (lD (Iv (e.origin)) lT (bS 8 dc) (zb (bR.b1) rfl) dR), ?_, ?_, ?_, ob1 0 fun _ _ _ ar => obl rfl (yr (k := .i64) (a := e.seq) (b := ((zu n L).getD e.origin.toNat 0) + 1) (ar 2 dc) (ar 12 dc) dR), trivial⟩ ?_
 refine ob1 0 fun _ _ _ au => (obl rfl ?_)
 have hi526 : e.origin.toNat < (zu n L).length := bo
 exact zz (k := 1) (i := e.origin) sT tT (au 6 dc) F.sl (au 9 dc) ⟨by omega, by omega⟩ dR
 refine ob1 0 fun _ _ (bT : Sep _ _ _ _) bU => (obl rfl ?_)
 have av : e.origin.toNat < (zu n L).length := bo
 obtain ⟨aL, hxe535⟩ := F.intD av
 have aM := bT.cells aL (F.foot (ne_of_lt av))
 exact lD (Iv (((zu n L).getD e.origin.toNat 0))) lT (bU 10 dc) (aM.get (j := 0) rfl) dR
 refine ob1 0 fun _ _ _ bV => (obl rfl ?_)
 have bW : InR (((zu n L).getD e.origin.toNat 0) + 1) := by omega
 exact zV (r := ((zu n L).getD e.origin.toNat 0) + 1) (k := .i64) (a := ((zu n L).getD e.origin.toNat 0)) (b := 1) (bV 11 dc) rfl (zJ bW) dR
 intro vals w556 bX bY
 have T : Sep _ _ _ _ := bX
 have dh := bY 13 dc
 refine zT (kv := [(0, Ix b 0), (1, .agg (e.cells de0).toArray), (3, Ix q 0), (4, Iv 0), (5, Iv ((yo e (((zu n L).length : Nat) : Int)))), (16, Iv ((yo e (((zu n L).length : Nat) : Int)))), (17, .bool false), (7, .bool false), (29, .bool false), (43, .bool (!decide (e.seq = (((zu n L).getD e.origin.toNat 0) + 1))))]) ⟨rfl, rfl, rfl, rfl, rfl, rfl, rfl, rfl, rfl, (by exact dh), trivial⟩ (fun ρw556 => (zd ?_))
 cases p : !decide (e.seq = (((zu n L).getD e.origin.toNat 0) + 1))
 have p := yp p
 refine zg rfl (zl (za (za (R0 fun _ => st (mV (Ix b 0) (st (zx (b := b) (o := 0) rfl (st (XD rfl (st (lD M lR rfl (zb (T.gblk N) rfl) (st (zL (n := (zu n L).length) sT rfl F.sl (st (mV (Iv 0) (zd (zw (yh (fun mq σ x => ∃ (k : Nat) (ρ : Env), mq = (zu n L).length - k ∧ σ = ye ρ [(0, Ix b 0), (3, Ix q 0), (48, Iw ((zu n L).length)), (49, Iw k)] ∧ (k ≤ (zu n L).length) ∧ (∀ i, i < k → xm L e i = true) ∧ Sep G1 w ((Blk l (s.cells g).toArray 41) :: (Blk q (e.cells de0).toArray 41) :: Rs) x) ⟨0, _, rfl, sSf, Nat.zero_le _, (fun i h => absurd h (Nat.not_lt_zero i)), T⟩ ?_))))))))))))))))))
 rintro m563 σ564 di ⟨k, ρl1, rfl, rfl, hkk, hm, U⟩
 refine za (R0 fun _ => st (zF (k := .i64) (a := ((k : Nat) : Int)) (b := (((zu n L).length : Nat) : Int)) rfl rfl (zd (za ?_))))
 cases K : decide (((k : Nat) : Int) < (((zu n L).length : Nat) : Int))
 have K := fD K
 refine zg rfl (yi (yb (za ?_)))
 have bZ := Z _ _ U
 obtain ⟨d, t, aw⟩ := SetO.open bZ
 let dv := xE yI EV YB t (yg L) (e.origin, e.seq) YB
 let cR := MapO yI EV t (Zr (yg L) (e.origin, e.seq) e)
 let bt := Blk b #[d, .map (some t), Iv (zK L)] 89
 have V := aw.r1
 have hr571s : _ * 8 ≤ _ := V.2
 have ca : Sep G W (dv :: bt :: (RowE (α := Int) own 3 d (zu n L)) :: bu :: ad :: Rs) di := Qo (aw.mv2) (by simpa using z)
 refine WD4 ((fun TT B => WF [fun vals x => Sep G W (B :: TT) x, fun vals x => ∃ (A : Value), (vals 7 = (.agg (e.cells A).toArray : Value)) ∧ Sep G W ((RowE (α := Int) own 3 A e.deps) :: B :: TT) x, fun vals x => ∃ (A : Value), (vals 7 = (.agg (e.cells A).toArray : Value)) ∧ Sep G W (cR :: TT) x]) (bt :: (RowE (α := Int) own 3 d (zu n L)) :: bu :: ad :: Rs) dv) (AF [Vl 0 (Ix b 0), Vl 1 (Ix b 0), Vl 2 (Ix b 1), Vl 3 (.map (some t)), Vl 4 (Ix q 0), Vl 5 (.agg #[Iv (e.origin), Iv (e.seq)]), Vl 6 (.agg (e.cells de0).toArray), fun _ => True, fun _ => True]) [[], [0], [0, 1], [0, 1, 2], [], [4], [], [6], (rg 8)] [7, 8] [(0, 1), (0, 1), (0, 1), (0, 1), (0, 1), (0, 1), (0, 0), (0, 0), (1, 1)] ca ⟨fun _ _ _ _ _ _ _ => obl rfl (mV (Ix b 0) dR), fun _ _ _ _ _ _ cb => obl rfl (zx (b := b) (o := 0) (cb 0 dc) dR), fun _ _ _ _ _ _ cc => obl rfl (Va (cc 1 dc) dR), ?_, fun _ _ _ _ _ _ _ => obl rfl (yy rfl dR), ?_, ob1 0 fun _ _ (cd : Sep _ _ _ _) _ => obl rfl (zf (k := 10) mT kT rfl rfl (CellsAt.all (cd.b4)) dR), ?_, ?_, trivial⟩ ?_
 refine fun X _ _ dj dk ax ay => ?_
 have hkk : X = 0 ∨ X = 1 := by have h1 : 0 ≤ X := dj; have h2 : X ≤ 1 := dk; omega
 rcases hkk with rfl | rfl
 have ce : Sep _ _ _ _ := ax
 exact obl rfl (lD (.map (some t)) rT (ay 2 dc) (zb (ce.b1) rfl) dR)
 obtain ⟨A, H, cf⟩ := ax
 exact obl rfl (lD (.map (some t)) rT (ay 2 dc) (zb (cf.b2) rfl) dR)
 refine fun Y _ _ dl dm az aA => ?_
 have hkk : Y = 0 ∨ Y = 1 := by have h1 : 0 ≤ Y := dl; have h2 : Y ≤ 1 := dm; omega
 rcases hkk with rfl | rfl
 have cg : Sep _ _ _ _ := az
 exact obl rfl (zf (k := 2) (cs := [Iv (e.origin), Iv (e.seq)]) mR nR rfl (aA 4 dc) (CellsAt.sub (CellsAt.all (cg.b4)) 0 (cs2 := [Iv (e.origin), Iv (e.seq)]) rfl) dR)
 obtain ⟨A, H, ch⟩ := az
 exact obl rfl (zf (k := 2) (cs := [Iv (e.origin), Iv (e.seq)]) mR nR rfl (aA 4 dc) (CellsAt.sub (CellsAt.all (ch.b5)) 0 (cs2 := [Iv (e.origin), Iv (e.seq)]) rfl) dR)
 refine ob1 0 fun vals _ (ci : Sep _ _ _ _) cj => (obl rfl ((zB (f := 37) (vals := [.agg (e.cells de0).toArray]) (cap := []) rfl (yE ⟨(cj 6 dc), trivial⟩) Tryz.call37 (Wf (e := e) hde0 oe ci) ?_)))
 rintro _ w633 ⟨A, rfl, aB⟩
 have ck := aB.r0
 have hr635s : _ * 8 ≤ _ := ck.2
 exact fun D P I => ⟨(Exists.intro A (And.intro P aB)), trivial⟩
 refine ob1 1 fun _ dp cl aC => ?_
 obtain ⟨A, H, cm⟩ := cl
 refine obl rfl ?_
 have cn : Sep G W ((EV (.agg (e.cells A).toArray) e) :: dv :: bt :: (RowE (α := Int) own 3 d (zu n L)) :: bu :: ad :: Rs) dp := zbe oe cm
 refine (ZP (k := (e.origin, e.seq)) (cn.mv1) K2i pR (aC 3 dc) (show _ = (.agg #[Iv (e.origin), Iv (e.seq)] : Value) from (aC 5 dc)) H ?_)
 intro dq co
 have aN : Sep G W (cR :: bt :: (RowE (α := Int) own 3 d (zu n L)) :: bu :: ad :: Rs) dq := co
 exact fun D P I => ⟨(Exists.intro A (And.intro ((I 7 dc).trans H) aN)), trivial⟩
 intro vals w703 cp hA705
 obtain ⟨A, H, cq⟩ := cp
 refine zT (kv := [(0, Ix b 0), (3, Ix q 0), (48, Iw ((zu n L).length)), (49, Iw k), (50, .bool false)]) sEv (fun ρw703 => (zd (za ?_)))
 refine WD4 ((fun TT B aa => WF [fun vals x => Sep G W (B :: aa :: (RowE (α := Int) own 3 d (zu n L)) :: TT) x, fun vals x => Sep G W ((RowE (α := Int) own 3 d ((zu n L).set e.origin.toNat (((zu n L).getD e.origin.toNat 0) + 1))) :: B :: aa :: TT) x]) (bu :: ad :: Rs) cR bt) (AF [Vl 0 (Ix b 0), Vl 1 (Ix b 0), Vl 2 (Ix b 0), Vl 3 (d), Vl 4 (Ix q 0), Vl 5 (Ix q 0), Vl 6 (Iv (e.origin)), Vl 7 (Ix (sb d) (so d + e.origin.toNat * 1)), Vl 8 (Iv (((zu n L).getD e.origin.toNat 0))), Vl 9 (Iv (((zu n L).getD e.origin.toNat 0) + 1)), Vl 10 (Ix (sb d) (so d + e.origin.toNat * 1)), fun _ => True]) [[], [0], [0, 1], [0, 1, 2], [], [4], [4, 5], (rg 7), (rg 8), (rg 9), (rg 10), (rg 11)] [11] [(0, 0), (0, 0), (0, 0), (0, 0), (0, 0), (0, 0), (0, 0), (0, 0), (0, 0), (0, 0), (0, 0), (0, 0)] cq ⟨fun _ _ _ _ _ _ _ => obl rfl (mV (Ix b 0) dR), fun _ _ _ _ _ _ cr => obl rfl (zx (b := b) (o := 0) (cr 0 dc) dR), fun _ _ _ _ _ _ ct => obl rfl (XD (ct 1 dc) dR), ob1 0 fun _ _ (cu : Sep _ _ _ _) cv => obl rfl (lD d lR (cv 2 dc) (zb (cu.b1) rfl) dR), fun _ _ _ _ _ _ _ => obl rfl (yy rfl dR), fun _ _ _ _ _ _ cw => obl rfl (xz (cw 4 dc) dR), ob1 0 fun _ _ (cx : Sep _ _ _ _) cy => obl rfl (lD (Iv (e.origin)) lT (cy 5 dc) (zb (cx.b4) rfl) dR), ?_, ?_, ?_, ?_, ?_, trivial⟩ ?_
 refine ob1 0 fun _ _ _ aD => (obl rfl ?_)
 have hi867 : e.origin.toNat < (zu n L).length := bo
 exact zz (k := 1) (i := e.origin) sT tT (aD 3 dc) V.1 (aD 6 dc) ⟨by omega, by omega⟩ dR
 refine ob1 0 fun _ _ (cz : Sep _ _ _ _) cC => (obl rfl ?_)
 have cD : e.origin.toNat < (zu n L).length := bo
 obtain ⟨_, _, aO, rfl, hxe876⟩ := cz.rowAtI (i := 2) (j := e.origin.toNat) rfl cD
 exact lD (Iv (((zu n L).getD e.origin.toNat 0))) lT (cC 7 dc) (aO.get (j := 0) rfl) dR
 refine ob1 0 fun _ _ _ cE => (obl rfl ?_)
 have cF : InR (((zu n L).getD e.origin.toNat 0) + 1) := by omega
 exact zV (r := ((zu n L).getD e.origin.toNat 0) + 1) (k := .i64) (a := ((zu n L).getD e.origin.toNat 0)) (b := 1) (cE 8 dc) rfl (zJ cF) dR
 refine ob1 0 fun _ _ _ aE => (obl rfl ?_)
 have hi896 : e.origin.toNat < (zu n L).length := bo
 exact zz (k := 1) (i := e.origin) sT tT (aE 3 dc) V.1 (aE 6 dc) ⟨by omega, by omega⟩ dR
 refine ob1 0 fun _ _ (cG : Sep _ _ _ _) aF => (obl rfl ?_)
 refine (xk (α := Int) (j := e.origin.toNat) (o := 0) (u := Iv (((zu n L).getD e.origin.toNat 0) + 1)) (us := [Iv (((zu n L).getD e.origin.toNat 0) + 1)]) (x1 := ((zu n L).getD e.origin.toNat 0) + 1) ((cG.mv2).emp1) tT bo (aF 10 (by decide)) (aF 9 (by decide)) rfl (Nat.le_of_ble_eq_true rfl) (zW ⟨rfl, trivial⟩) (fun _ _ cQ hel _ => (by have du := Src.len _ hel; have e0 : cQ.take 0 ++ (([Iv (((zu n L).getD e.origin.toNat 0) + 1)] : List Value)) ++ cQ.drop (0 + (([Iv (((zu n L).getD e.origin.toNat 0) + 1)] : List Value)).length) = (([Iv (((zu n L).getD e.origin.toNat 0) + 1)] : List Value)) := (by rw [List.drop_eq_nil_of_le (by rw [du]; exact Nat.le_of_ble_eq_true rfl)]; simp); rw [e0]; exact (show _ from ⟨rfl, (by omega)⟩))) ?_)
 intro w804 aG
 have cH := aG.r0
 have hr808s : _ * 8 ≤ _ := cH.2
 exact fun D P I => ⟨aG, trivial⟩
 intro vals w897 cI hA899
 have cJ : Sep _ _ _ _ := cI
 refine zT (kv := [(0, Ix b 0), (3, Ix q 0), (48, Iw ((zu n L).length)), (49, Iw k), (50, .bool false)]) sEv (fun ρw897 => (zd (za ?_)))
 refine WD4 ((fun TT B aa => WF [fun vals x => Sep G W (B :: aa :: bt :: TT) x, fun vals x => Sep G W (B :: aa :: (Blk b #[d, .map (some t), Iv (max (zK L) e.lam)] 89) :: TT) x]) (bu :: ad :: Rs) (RowE (α := Int) own 3 d ((zu n L).set e.origin.toNat (((zu n L).getD e.origin.toNat 0) + 1))) cR) (AF [Vl 0 (Ix b 0), Vl 1 (Ix b 0), Vl 2 (Ix b 0), Vl 3 (Ix b 2), Vl 4 (Iv (zK L)), Vl 5 (Ix q 2), Vl 6 (Iv (e.lam)), Vl 7 (Iv (max (zK L) e.lam)), Vl 8 (Ix b 0), Vl 9 (Ix b 2), fun _ => True]) [[], [], [1], [1, 2], [1, 2, 3], [], [5], [1, 2, 3, 4, 5, 6], (rg 8), (rg 9), (rg 10)] [10] [(0, 0), (0, 0), (0, 0), (0, 0), (0, 0), (0, 0), (0, 0), (0, 0), (0, 0), (0, 0), (0, 0)] cJ ⟨fun _ _ _ _ _ _ _ => obl rfl (mV (Ix b 0) dR), fun _ _ _ _ _ _ _ => obl rfl (mV (Ix b 0) dR), fun _ _ _ _ _ _ cK => obl rfl (zx (b := b) (o := 0) (cK 1 dc) dR), fun _ _ _ _ _ _ aP => obl rfl (Ug (aP 2 dc) dR), ob1 0 fun _ _ (aQ : Sep _ _ _ _) aR => obl rfl (lD (Iv (zK L)) lT (aR 3 dc) (zb (aQ.b2) rfl) dR), fun _ _ _ _ _ _ _ => obl rfl (Zc rfl dR), ob1 0 fun _ _ (aT : Sep _ _ _ _) aU => obl rfl (lD (Iv (e.lam)) lT (aU 5 dc) (zb (aT.b4) rfl) dR), ob1 0 fun _ _ _ ab => obl rfl (Yx (k := .i64) (a := zK L) (b := e.lam) (ab 4 dc) (ab 6 dc) dR), fun _ _ _ _ _ _ aV => obl rfl (zx (b := b) (o := 0) (aV 0 dc) dR), fun _ _ _ _ _ _ aW => obl rfl (Ug (aW 8 dc) dR), ?_, trivial⟩ ?_
 refine ob1 0 fun _ _ (aH : Sep _ _ _ _) aI => (obl rfl ((yn (v := Iv (max (zK L) e.lam)) (c := [d, .map (some t), Iv (zK L)]) (c' := [d, .map (some t), Iv (max (zK L) e.lam)]) tT (aI 9 dc) (aI 7 dc) (aH.b2) rfl rfl rfl ?_)))
 intro w981 cM
 exact fun D P I => ⟨(aH.pt2 cM), trivial⟩
 intro vals cN aX hA1057
 have aY : Sep _ _ _ _ := aX
 refine zT (kv := [(0, Ix b 0), (3, Ix q 0), (48, Iw ((zu n L).length)), (49, Iw k), (50, .bool false)]) sEv (fun ρw1055 => (zd (za (R0 fun _ => st (aS (Iv 0) (zd (zk (zG uT (show _ = (Iv 0 : Value) from rfl) ?_))))))))
 have aZ : Sep G W ((SetO b n (xU e L)) :: bu :: ad :: Rs) cN := SetO.close (aY.mv2) JY (by rw [O]; exact zaj ds cY) (Vz (by simpa using z))
 refine ⟨(xU e L), ?_, ?_, (aZ.s3_a)⟩
 rw [zaG m z (by rw [O] at p; exact p) (fun i hi => hm i (by omega))]
 rw [QN (zaG m z (by rw [O] at p; exact p) (fun i hi => hm i (by omega)))]
 have K := tD K
 refine zh rfl (zl (za (zw (za (R0 fun _ => st (mV (Iw k) (st (aS (Iw k) (zd (za (R0 fun _ => st (mV (Ix b 0) (st (zf (k := 10) mT kT rfl rfl (CellsAt.all (U.b1)) (st (mV (Iw k) ?_))))))))))))))))
 refine st (cL Tryz.call36 (zao (e := e) (o := k) cO (RdS.base hde0 cP) oe yqe U (dt) (hlen)) ?_)
 rintro _ w1062 ⟨rfl, ac⟩
 refine st (yH (a := (xm L e k)) rfl (zd ?_))
 cases C : !(xm L e k)
 try simp only [ze] at C
 refine zg rfl (zl (R0 fun _ => ?_))
 have ba : InR ((k + 1 : Nat) : Int) := bo
 refine st (zV (r := ((k + 1 : Nat) : Int)) (k := .i64) (a := ((k : Nat) : Int)) (b := 1) rfl rfl (by rw [show (((k : Nat) : Int) + 1 : Int) = ((k + 1 : Nat) : Int) from bo]; exact zJ ba) (st (mV (Iw (k + 1)) (zd ?_))))
 exact ⟨_, by omega, k + 1, _, rfl, sSf, by omega, (yU hm (by simpa using C)), ac⟩
 try simp only [ze] at C
 refine zh rfl (za (R0 fun _ => st (aS (Iv 9) (zd (zk (zG uT (show _ = (Iv 9 : Value) from rfl) ?_))))))
 have bb := Z _ _ ac
 refine ⟨L, ?_, ?_, (bb.s3_a)⟩
 rw [zaJ m z (by rw [O] at p; exact p) (k := k) (by omega) (by simpa using C)]
 rw [YM (by rw [zaJ m z (by rw [O] at p; exact p) (k := k) (by omega) (by simpa using C)]; decide)]
 have p := zC p
 refine zh rfl (za (R0 fun _ => st (aS (Iv 9) (zd (zk (zG uT (show _ = (Iv 9 : Value) from rfl) ?_))))))
 have bc := Z _ _ T
 refine ⟨L, ?_, ?_, (bc.s3_a)⟩
 rw [zaH m z (by rw [O] at p; exact p)]
 rw [YM (by rw [zaH m z (by rw [O] at p; exact p)]; decide)]
 refine zh rfl (za (R0 fun _ => st (aS (Iv 16) (zd (zk (zG uT (show _ = (Iv 16 : Value) from rfl) ?_))))))
 have bd := Z _ _ aq
 refine ⟨L, ?_, ?_, (bd.s3_a)⟩
 rw [zaK m z]
 rw [YM (by rw [zaK m z]; decide)]
 have m := zC m
 refine zh rfl (za (R0 fun _ => st (mV (Iv ((yo e (((zu n L).length : Nat) : Int)))) (st (aS (Iv ((yo e (((zu n L).length : Nat) : Int)))) (zd (zk (zG uT (show _ = (Iv ((yo e (((zu n L).length : Nat) : Int))) : Value) from rfl) ?_))))))))
 have be := Z _ _ ag
 refine ⟨L, ?_, ?_, (be.s2_a)⟩
 rw [af] at *; rw [zaD m]
 rw [af] at *; rw [YM (by rw [zaD m]; exact m)]

end Go.Proofs.YtbbabhaalmkbkaaGreatDoor
namespace Go.Proofs.YtbbabhaalmkbkaaGreatDoor

theorem Km {a b : Ev} : ltE a b = true ↔ ZS a b < 0 := by
  rw [xG]
  unfold ltE
  by_cases h1 : a.lam = b.lam
  · by_cases h2 : a.origin = b.origin
    · simp [h1, h2]
    · simp [h1, h2]
  · simp [h1]
theorem Qe {a b c : Ev} (h1 : ZS a b < 0) (h2 : ZS b c < 0) : ZS a c < 0 := by rw [xG] at *; omega
theorem Qg {a b : Ev} (h : idE a ≠ idE b) : ZS a b < 0 ∨ ZS b a < 0 := by
  rw [xG, xG]
  have h' : ¬ (a.origin = b.origin ∧ a.seq = b.seq) := fun e => h (by unfold idE; rw [e.1, e.2])
  omega
section
variable {n : Nat} {L T : List Ev} {e x y : Ev}
theorem Yi : x ∈ xU e L ↔ x = e ∨ x ∈ L := by rw [insE_perm.mem_iff, List.mem_cons]
theorem QS (hs : Srt L) (hn : idE e ∉ L.map idE) : Srt (xU e L) := by
  induction L with
  | nil => exact List.pairwise_singleton _ _
  | cons x l ih =>
    unfold Srt at hs ⊢
    rw [List.pairwise_cons] at hs
    have hne : idE e ≠ idE x := fun h => hn (by rw [h]; exact List.mem_map.2 ⟨x, List.mem_cons_self .., rfl⟩)
    simp only [xU]
    split
    · rename_i hlt
      have h1 := Km.1 hlt
      rw [List.pairwise_cons, List.pairwise_cons]
      refine ⟨fun y hy => ?_, hs.1, hs.2⟩
      rcases List.mem_cons.1 hy with rfl | hy
      · exact h1
      · exact Qe h1 (hs.1 y hy)
    · rename_i hlt
      rw [List.pairwise_cons]
      refine ⟨fun y hy => ?_, ih hs.2 (fun h => hn (List.mem_cons_of_mem _ h))⟩
      rcases Yi.1 hy with rfl | hy
      · rcases Qg hne with h | h
        · exact absurd (Km.2 h) hlt
        · exact h
      · exact hs.1 y hy

structure Good (n : Nat) (L : List Ev) : Prop where
  chk : ∀ e ∈ L, yo e n = 0
  ids : (L.map idE).Nodup
  srt : Srt L
  knw : ∀ e ∈ L, ∀ o, o < n → xm L e o = true
  seqle : ∀ e ∈ L, e.seq ≤ ((ZB L e.origin.toNat : Nat) : Int)
  fill : ∀ (o : Nat) (q : Int), 1 ≤ q → q ≤ ((ZB L o : Nat) : Int) → (yg L ((o : Int), q)).isSome = true
theorem Good.nil : Good n [] := by
  refine ⟨fun _ h => by simp at h, List.nodup_nil, List.Pairwise.nil, fun _ h => by simp at h, fun _ h => by simp at h, fun o q h1 h2 => ?_⟩
  have h3 : ZB [] o = 0 := rfl
  omega
theorem Good.len (h : Good n L) : ∀ y ∈ L, y.deps.length = n := fun y hy => (Xj (h.chk y hy)).2.2.1
theorem Good.get (h : Good n L) (hx : x ∈ L) : yg L (x.origin, x.seq) = some x := ZI h.ids hx
theorem JD {o : Nat} : xm L e o = true ↔ e.deps.getD o 0 = 0 ∨ ∃ x, yg L ((o : Int), e.deps.getD o 0) = some x ∧ x.lam < e.lam ∧ ∀ i, i < x.deps.length → x.deps.getD i 0 ≤ e.deps.getD i 0 := by
  unfold xm
  by_cases h : e.deps.getD o 0 = 0
  · rw [decide_eq_true h, Bool.true_or]; exact ⟨fun _ => .inl h, fun _ => rfl⟩
  · rw [decide_eq_false h, Bool.false_or]
    constructor
    · intro h1
      cases hg : yg L ((o : Int), e.deps.getD o 0) with
      | none => rw [hg] at h1; cases h1
      | some x =>
        rw [hg] at h1
        simp only [Bool.and_eq_true, decide_eq_true_eq, List.all_eq_true, List.mem_range] at h1
        exact .inr ⟨x, rfl, h1.1, fun i hi => h1.2 i hi⟩
    · rintro (h1 | ⟨x, hg, h1, h2⟩)
      · exact absurd h1 h
      · rw [hg]
        simp only [Bool.and_eq_true, decide_eq_true_eq, List.all_eq_true, List.mem_range]
        exact ⟨h1, fun i hi => h2 i hi⟩
theorem add_zero (h : Zs n L e = 0) : yo e n = 0 ∧ (yg L (e.origin, e.seq)).isSome = false ∧ e.seq = ((ZB L e.origin.toNat : Nat) : Int) + 1 ∧ ∀ o, o < n → xm L e o = true := by
  unfold Zs at h
  split at h
  · rename_i h1; exact absurd h h1
  · rename_i h1
    split at h
    · cases h
    · rename_i h2
      split at h
      · cases h
      · rename_i h3
        split at h
        · rename_i h4
          refine ⟨by simpa using h1, by simpa using h2, by simpa using h3, fun o ho => ?_⟩
          exact (List.all_eq_true.1 h4) o (List.mem_range.2 ho)
        · cases h
theorem Wh {k : Int × Int} (h : (yg L (e.origin, e.seq)).isSome = false) : yg (xU e L) k = if (e.origin, e.seq) = k then some e else yg L k := by
  rw [← Vz h]; rfl
theorem Good.add (h : Good n L) (h0 : Zs n L e = 0) : Good n (xU e L) := by
  obtain ⟨hc, hg, hs, hk⟩ := add_zero h0
  obtain ⟨⟨ho, ho'⟩, ⟨hs1, _⟩, hdl, hdq⟩ := Xj hc
  have hid : idE e ∉ L.map idE := fun hm => by
    have := Vo.2 hm
    unfold idE at this
    rw [hg] at this; cases this
  have hkn : ∀ {x : Ev} {o : Nat}, xm L x o = true → xm (xU e L) x o = true := fun {x o} hx => by
    rw [JD] at hx ⊢
    rcases hx with hx | ⟨z, hz, h1, h2⟩
    · exact .inl hx
    · refine .inr ⟨z, ?_, h1, h2⟩
      rw [Wh hg, if_neg, hz]
      intro he
      rw [he, hz] at hg; cases hg
  refine ⟨fun x hx => ?_, ?_, QS h.srt hid, fun x hx o hlt => ?_, fun x hx => ?_, fun o q h1 h2 => ?_⟩
  · rcases Yi.1 hx with rfl | hx
    · exact hc
    · exact h.chk x hx
  · have hp : ((xU e L).map idE).Perm (idE e :: L.map idE) := insE_perm.map idE
    exact hp.nodup_iff.2 (List.nodup_cons.2 ⟨hid, h.ids⟩)
  · rcases Yi.1 hx with rfl | hx
    · exact hkn (hk o hlt)
    · exact hkn (h.knw x hx o hlt)
  · rw [Ww]
    rcases Yi.1 hx with rfl | hx
    · rw [if_pos (by omega)]; omega
    · have := h.seqle x hx; omega
  · rw [Ww] at h2
    rw [Wh hg]
    by_cases he : (e.origin, e.seq) = ((o : Int), q)
    · rw [if_pos he]; rfl
    · rw [if_neg he]
      refine h.fill o q h1 ?_
      by_cases hoe : e.origin = (o : Int)
      · rw [if_pos hoe] at h2
        have : e.seq ≠ q := fun hq => he (by rw [hoe, hq])
        have h3 : e.origin.toNat = o := by omega
        rw [h3] at hs
        omega
      · rw [if_neg hoe] at h2; simpa using h2
theorem Good.addL (h : Good n L) : Good n (addL n L e) := by
  unfold Go.Proofs.YtbbabhaalmkbkaaGreatDoor.addL
  split
  · rename_i h0; exact h.add h0
  · exact h
def yR (n : Nat) (l : List Ev) : List Ev := l.foldl (addL n) []
theorem Ub {l : List Ev} : yR n (l ++ [e]) = addL n (yR n l) e := by unfold yR; rw [List.foldl_append]; rfl
theorem Xg : ∀ {l : List Ev} {L : List Ev}, Good n L → Good n (l.foldl (addL n) L)
  | [], _, h => h
  | _ :: l, _, h => Xg (l := l) h.addL
theorem laidL_good {l : List Ev} : Good n (yR n l) := Xg Good.nil
theorem Je : (addL n L e).length ≤ L.length + 1 := by
  unfold addL
  split
  · rw [Kz]; omega
  · omega
theorem Wp : ∀ {l : List Ev} {L : List Ev}, (l.foldl (addL n) L).length ≤ L.length + l.length
  | [], _ => Nat.le_refl _
  | x :: l, L => by
    have := Wp (l := l) (L := addL n L x)
    have h2 := Je (n := n) (L := L) (e := x)
    simp only [List.foldl_cons, List.length_cons]
    omega
theorem ZE {l : List Ev} : (yR n l).length ≤ l.length := by have := Wp (n := n) (l := l) (L := []); simpa [yR] using this

end
end Go.Proofs.YtbbabhaalmkbkaaGreatDoor
set_option maxRecDepth 8000
set_option maxHeartbeats 4000000
namespace Go.Proofs.YtbbabhaalmkbkaaGreatDoor
open Go.Proofs Go.RowKit

def xp (c : Cmd) (ver : Int) : Int := if (decide (c.expect = -1) || decide (c.expect = ver)) = true then 0 else 11
def xB (d : Dcl) (k : Int × Int) (V : List Ent) : Sta := ⟨((zU k V : Nat) : Int), zY d k V⟩
def exR (d : Dcl) (n : Nat) (L : List Ev) (V : List Ent) (o start : Int) (c : Cmd) : Ev × Bool × Int :=
  if ¬ yY d c = 0 then (ev0, false, yY d c) else match yN L c.ckey with
  | some e => (e, false, 0)
  | none => if ¬ xp c ((zU (c.ctyp, c.cagg) V : Nat) : Int) = 0 then (ev0, false, xp c ((zU (c.ctyp, c.cagg) V : Nat) : Int))
    else if ¬ yP (xT d c.ctyp) (zY d (c.ctyp, c.cagg) V) c.cfield c.cop c.carg = 0 then (ev0, false, yP (xT d c.ctyp) (zY d (c.ctyp, c.cagg) V) c.cfield c.cop c.carg)
    else (evE c o (zu n L) (max (zK L) start), decide (evN o (zu n L) (max (zK L) start) = 0), evN o (zu n L) (max (zK L) start))
theorem Jj {G : Nat → Prop} {W w : World} {As : List HP} {T : TypeId} {d : Value} {l : List Int} (h : Sep G W (RowE (α := Int) own T d l :: As) w) : Sep G W (DepO d l :: As) w := h.impl (i := 0) rfl (fun _ h => RowE.soft h)
theorem D_ex1 {G : Nat → Prop} {W w : World} {Rs : List HP} {bc : Nat} {c : Cmd} (hbc : (Blk bc (c.cells).toArray 28).p W G) (oc : c.Ok) {bs : Nat} {x : Sta} {vx : Value} (hbs : (Blk bs (x.cells vx).toArray 47).p W G) (hvx : RdS W G vx x.cls) (ox : x.Ok) (hS0 : Sep G W Rs w) : Ret Tryz.prog 29 [.pointer (some ⟨bc, 0, none⟩), .pointer (some ⟨bs, 0, none⟩)] w (fun r w' => r = (.int .i64 ((xp c x.ver)) : Value) ∧ Sep G W Rs w') := by
 refine zi (args := [Ix bc 0, Ix bs 0]) Tryz.func29 rfl rfl ?_
 refine za (R0 fun _ => st (aS (Iv 0) (zd (za (za (zv kr (st (Zd rfl (st (lD (Iv (c.expect)) lT rfl (zb (hS0.gblk hbc) rfl) (st (zN (k := .i64) (a := c.expect) (b := -1) rfl rfl (st (mV (.bool (decide (c.expect = (-1)))) (stc (V := Ix bc 5) rfl rfl (fun i => ?_) ?_)))))))))))))))
 have hl2 := fD i
 exact Zd rfl ⟨rfl, rfl⟩
 refine stc (V := Iv (c.expect)) rfl rfl (fun g => ?_) ?_
 have hl4 := fD g
 exact lD (Iv (c.expect)) lT (if_pos g) (zb (hS0.gblk hbc) rfl) ⟨rfl, rfl⟩
 refine stc (V := Ix bs 0) rfl rfl (fun j => ?_) ?_
 have hl6 := fD j
 exact WK rfl ⟨rfl, rfl⟩
 refine stc (V := Iv (x.ver)) rfl rfl (fun h => ?_) ?_
 have hl8 := fD h
 exact lD (Iv (x.ver)) lT (if_pos h) (zb (hS0.gblk hbs) rfl) ⟨rfl, rfl⟩
 refine stc (V := .bool (decide (c.expect = x.ver))) rfl rfl (fun f => ?_) ?_
 have hl10 := fD f
 exact zN (k := .i64) (a := c.expect) (b := x.ver) (if_pos f) (if_pos f) ⟨rfl, rfl⟩
 refine st (zo (b := decide (c.expect = (-1))) (b' := decide (c.expect = x.ver)) rfl (fun hbp => (if_pos hbp)) (zd ?_))
 cases d : (decide (c.expect = (-1))) || (decide (c.expect = x.ver))
 have e := d
 try simp only [ze] at d
 refine zg rfl (zl (za (R0 fun _ => st (aS (Iv 11) (zd (zk (zG kY (show _ = (Iv 11 : Value) from rfl) ?_)))))))
 refine ⟨?_, hS0⟩
 unfold xp
 simp only [e, if_true, if_false, Bool.false_eq_true, ↓reduceIte]
 have e := d
 try simp only [ze] at d
 refine zh rfl (za (R0 fun _ => st (aS (Iv 0) (zd (zk (zG kY (show _ = (Iv 0 : Value) from rfl) ?_))))))
 refine ⟨?_, hS0⟩
 unfold xp
 simp only [e, if_true, if_false, Bool.false_eq_true, ↓reduceIte]

theorem D_ex2 {G : Nat → Prop} {W w : World} {Rs : List HP} {bt : Nat} {t : Typ} {vt : Value} (hbt : (Blk bt (t.cells vt).toArray 53).p W G) (hvt : RdS W G vt t.fields) (ot : t.Ok) {bs : Nat} {x : Sta} {vx : Value} (hbs : (Blk bs (x.cells vx).toArray 47).p W G) (hvx : RdS W G vx x.cls) (ox : x.Ok) {bc : Nat} {c : Cmd} (hbc : (Blk bc (c.cells).toArray 28).p W G) (oc : c.Ok) (hS0 : Sep G W Rs w) (hak : Xz t x.cls c.cfield c.cop c.carg) : Ret Tryz.prog 30 [.pointer (some ⟨bt, 0, none⟩), .pointer (some ⟨bs, 0, none⟩), .pointer (some ⟨bc, 0, none⟩)] w (fun r w' => r = (.int .i64 (yP t x.cls c.cfield c.cop c.carg) : Value) ∧ Sep G W Rs w') := by
 refine zi (args := [Ix bt 0, Ix bs 0, Ix bc 0]) Tryz.func30 rfl rfl ?_
 refine za (R0 fun _ => st (aS (Iv 0) (zd (za (R0 fun _ => st (zf (k := 1) qR vT rfl rfl (CellsAt.all (hS0.gblk hbt)) (st (xV rfl (st (lD vx Tryz.isAgg45 rfl (zb (hS0.gblk hbs) rfl) (st (VY rfl (st (lD (Iv (c.cfield)) lT rfl (zb (hS0.gblk hbc) rfl) (st (Ul rfl (st (lD (Iv (c.cop)) lT rfl (zb (hS0.gblk hbc) rfl) (st (WZ rfl (st (lD (Iv (c.carg)) lT rfl (zb (hS0.gblk hbc) rfl) (st (cL Tryz.call31 (zaB (t := t) (c := x.cls) (vc := vx) (f := c.cfield) (op := c.cop) (arg := c.carg) hvt ot hvx oc.cfield oc.cop oc.carg hS0 (hak)) ?_))))))))))))))))))))))))
 rintro _ w1 ⟨rfl, a⟩
 refine st (aS (Iv (yP t x.cls c.cfield c.cop c.carg)) (zd (zk (zG Tryz.results30 (show _ = (Iv (yP t x.cls c.cfield c.cop c.carg) : Value) from rfl) ?_))))
 refine ⟨rfl, a⟩

theorem Vc {P : Program} {σ : Env} {w : World} {fn : Func} {a u u2 : Tmp} {t : TypeId} {R : Value → World → Prop} {b k : Nat} {cs : List Value} {v' v'' : Value} (hr : fn.results = #[.cell a t, .tmp u, .tmp u2]) (hA : ∀ w, (isAgg t).run P w = .ok true w) (hS : ∀ w, (sizeOf t).run P w = .ok k w) (hk : cs.length = k)
    (hv : σ a = .pointer (some ⟨b, 0, none⟩)) (hc : CellsAt w b 0 cs) (hu : σ u = v') (hu2 : σ u2 = v'') (h : R (.tuple #[.agg cs.toArray, v', v'']) w) : ZM P fn R .ret σ w := by
  subst hk
  refine ⟨_, fun tmps ht => ?_, h⟩
  have := yB (P := P) (w := w) b 0 cs 0 #[] (fun j hj => by simpa using hc j hj)
  have e : tmps[a]?.getD undef = .pointer (some ⟨b, 0, none⟩) := by rw [← hv, ← ht a]; simp
  have e2 : tmps[u]?.getD undef = v' := by rw [← hu, ← ht u]; simp
  have e3 : tmps[u2]?.getD undef = v'' := by rw [← hu2, ← ht u2]; simp
  simp [results, hr, e, e2, e3, asAddr, loadVar, hA, hS, loadCells, this, go_sem]
section
variable {d : Dcl} {n : Nat} {L : List Ev} {V : List Ent} {o start : Int} {c : Cmd}
theorem Wj (h : ¬ yY d c = 0) : exR d n L V o start c = (ev0, false, yY d c) := if_pos h
theorem XP (h : yY d c = 0) (hk : (yN L c.ckey).isSome = true) : exR d n L V o start c = ((yN L c.ckey).getD default, false, 0) := by
  obtain ⟨e, he⟩ := Option.isSome_iff_exists.1 hk
  unfold exR
  rw [if_neg (fun h9 => h9 h), he]
  rfl
theorem Vp (h : yY d c = 0) (hk : (yN L c.ckey).isSome = false) : exR d n L V o start c = if ¬ xp c ((zU (c.ctyp, c.cagg) V : Nat) : Int) = 0 then (ev0, false, xp c ((zU (c.ctyp, c.cagg) V : Nat) : Int))
    else if ¬ yP (xT d c.ctyp) (zY d (c.ctyp, c.cagg) V) c.cfield c.cop c.carg = 0 then (ev0, false, yP (xT d c.ctyp) (zY d (c.ctyp, c.cagg) V) c.cfield c.cop c.carg)
    else (evE c o (zu n L) (max (zK L) start), decide (evN o (zu n L) (max (zK L) start) = 0), evN o (zu n L) (max (zK L) start)) := by
  have hn : yN L c.ckey = none := Option.not_isSome_iff_eq_none.1 (by rw [hk]; decide)
  unfold exR
  rw [if_neg (fun h9 => h9 h), hn]
theorem Jo (h : yY d c = 0) (hk : (yN L c.ckey).isSome = false) (hx : ¬ xp c ((zU (c.ctyp, c.cagg) V : Nat) : Int) = 0) : exR d n L V o start c = (ev0, false, xp c ((zU (c.ctyp, c.cagg) V : Nat) : Int)) := by rw [Vp h hk, if_pos hx]
theorem QZ (h : yY d c = 0) (hk : (yN L c.ckey).isSome = false) (hx : xp c ((zU (c.ctyp, c.cagg) V : Nat) : Int) = 0) (hm : ¬ yP (xT d c.ctyp) (zY d (c.ctyp, c.cagg) V) c.cfield c.cop c.carg = 0) : exR d n L V o start c = (ev0, false, yP (xT d c.ctyp) (zY d (c.ctyp, c.cagg) V) c.cfield c.cop c.carg) := by rw [Vp h hk, if_neg (fun h9 => h9 hx), if_pos hm]
theorem KE (h : yY d c = 0) (hk : (yN L c.ckey).isSome = false) (hx : xp c ((zU (c.ctyp, c.cagg) V : Nat) : Int) = 0) (hm : yP (xT d c.ctyp) (zY d (c.ctyp, c.cagg) V) c.cfield c.cop c.carg = 0) : exR d n L V o start c = (evE c o (zu n L) (max (zK L) start), decide (evN o (zu n L) (max (zK L) start) = 0), evN o (zu n L) (max (zK L) start)) := by rw [Vp h hk, if_neg (fun h9 => h9 hx), if_neg (fun h9 => h9 hm)]
theorem Vh (o : Int) : 0 ≤ yx (zu n L) o ∧ yx (zu n L) o ≤ L.length := by
  unfold yx
  split
  · omega
  · rename_i h
    rw [Yn] at h
    rw [UE (by omega)]
    have := UD (L := L) (o := o.toNat)
    omega
theorem zay {W : World} {G : Nat → Prop} {m : Nat} {R : List ((Int × Int) × Value)} (hr : SetR W G m R L) (hid : (L.map idE).Nodup) : ∀ e ∈ L, e.Ok := fun e he => by
  obtain ⟨x, vd, h1, _, h3, _⟩ := hr.at_ (idE e)
  rw [ZI hid he] at h1
  have h4 : x = e := h1
  exact h4 ▸ h3
theorem zat {key : Int} (h : ∀ e ∈ L, e.Ok) (hk : (yN L key).isSome = true) : ((yN L key).getD default).Ok := by
  obtain ⟨e, he⟩ := Option.isSome_iff_exists.1 hk
  rw [he]
  exact h e (List.mem_of_find?_eq_some he)
theorem JA (h : yY d c = 0) : yL d c.ctyp c.cfield c.cop c.carg = 0 := by
  unfold yY at h
  split at h
  · cases h
  · exact h
theorem Qh {k : Int × Int} (h : (zq d V k).isSome = false) : zU k V = 0 := by
  unfold zq at h
  split at h
  · assumption
  · cases h
theorem JP {k : Int × Int} (h : (zq d V k).isSome = true) : stL d k V = zY d k V := by
  unfold zq at h
  unfold stL
  split at h
  · cases h
  · rename_i hn; rw [if_neg hn]
end
set_option maxHeartbeats 8000000 in
theorem Zb {G : Nat → Prop} {W w : World} {Rs : List HP} {d : Dcl} {dd0 : Value} (hdd0 : RdS W G dd0 d.types) {dd1 : Value} (hdd1 : RdS W G dd1 d.projs) (od : d.Ok) {sq : Nat} {n : Nat} {L : List Ev} (hsq : (SetO sq n L).p W G) {vb : Nat} {V : List Ent} {o : Int} (ho : InR o) {start : Int} (hstart : InR start) {c : Cmd} (oc : c.Ok) (hKN : RdS W G (.slice (some ⟨0, 0, none⟩) 6 6) kindsL) (hS0 : Sep G W ((ViewO vb d V V) :: Rs) w) (hd : DclOk d) (hinv : Inv d V) (hml : V.length ≤ 1000000) (hid : (L.map idE).Nodup) (hsr : Srt L) (hL : L.length ≤ 1000000) (htop : InR (zK L)) : Ret Tryz.prog 11 [.agg (d.cells dd0 dd1).toArray, .pointer (some ⟨sq, 0, none⟩), .pointer (some ⟨vb, 0, none⟩), .int .i64 (o), .int .i64 (start), .agg (c.cells).toArray] w (fun r w' => ∃ (vd : Value), r = (.tuple #[.agg ((exR d n L V o start c).1.cells vd).toArray, .bool ((exR d n L V o start c).2.1), .int .i64 ((exR d n L V o start c).2.2)] : Value) ∧ Sep G W ((ViewO vb d V V) :: (DepO vd ((exR d n L V o start c).1.deps)) :: Rs) w') := by
 have hdd0s : _ * 24 ≤ _ := hdd0.small
 have hdd1s : _ * 40 ≤ _ := hdd1.small
 have hKNs : _ * 8 ≤ _ := hKN.small
 refine zi (args := [.agg (d.cells dd0 dd1).toArray, Ix sq 0, Ix vb 0, Iv o, Iv start, .agg (c.cells).toArray]) Tryz.func11 rfl rfl ?_
 obtain ⟨vv1, m2, R3, hb4, ed, hr6⟩ := SetO.sh hsq
 have hsm7 : (zu n L).length * 8 ≤ 140737488355328 := ed.small
 refine za (R0 fun _ => st (zH (v := .agg (d.cells dd0 dd1).toArray) rfl ?_))
 intro w10 b9 ee
 let el := Blk b9 (d.cells dd0 dd1).toArray 25
 refine st (zH (v := .agg (c.cells).toArray) rfl ?_)
 intro w14 s dk
 let eo := Blk s (c.cells).toArray 28
 refine st (zr nT ?_)
 intro w18 F dl
 let ew := Blk F (ev0.cells (Iz)).toArray 41
 have aJ := ((hS0.new ee).new dk).new dl
 refine st (aS (.bool false) (st (aS (Iv 0) (zd (za (za (R0 fun _ => st (zf (k := 2) rR sR rfl rfl (CellsAt.all (aJ.b2)) (st (zf (k := 7) pT qT rfl rfl (CellsAt.all (aJ.b1)) (st (cL Tryz.call27 (Kt (d := d) (c := c) hdd0 hdd1 od oc hKN aJ) ?_))))))))))))
 rintro _ w20 ⟨rfl, ak⟩
 refine st (aS (Iv (yY d c)) (zd (za (R0 fun _ => st (mV (Iv (yY d c)) (st (yr (k := .i64) (a := yY d c) (b := 0) rfl rfl (zd ?_))))))))
 cases X : !decide ((yY d c) = 0)
 have hc22r := X
 have X := yp X
 have hzc : yY d c = 0 := by simpa using X
 obtain ⟨ef, eg, eh⟩ := Wy (JA hzc)
 refine zg rfl (zl (za (za (R0 fun _ => st (mV (Ix sq 0) (st (Ur rfl (st (lD (Iv (c.ckey)) lT rfl (zb (ak.b1) rfl) (st (cL Tryz.call28 (Ji (key := c.ckey) hsq oc.ckey ak (hid) (hsr) (hL)) ?_)))))))))))
 rintro _ w24 ⟨C, rfl, dm⟩
 let p := ((yN L c.ckey).getD default).cells C
 refine st (mV (.tuple #[.agg p.toArray, .bool (yN L c.ckey).isSome]) (st (zj (vs := [.agg p.toArray, .bool ((yN L c.ckey).isSome)]) (i := 0) (v := .agg p.toArray) rfl rfl (st (zj (vs := [.agg p.toArray, .bool ((yN L c.ckey).isSome)]) (i := 1) (v := .bool ((yN L c.ckey).isSome)) rfl rfl (st (zr nT ?_)))))))
 intro w28 aj dp
 let eu := Blk aj p.toArray 41
 have aK := dm.new dp
 refine stn (zp (v := .agg p.toArray) (c' := p.toArray) kT rfl rfl (aK.b0) (zW ⟨rfl, rfl, rfl, (aK.depSl (i := 1) rfl).one, rfl, rfl, rfl, rfl, rfl, rfl, trivial⟩) yqc rfl ?_)
 intro w30 dq
 have N := aK.pt0 dq
 refine st (aS (.bool ((yN L c.ckey).isSome)) (zd (za (R0 fun _ => st (mV (.bool ((yN L c.ckey).isSome)) (zd ?_))))))
 cases aL : (yN L c.ckey).isSome
 have hc33r := aL
 have hzk : (yN L c.ckey).isSome = false := by simpa using aL
 refine zg rfl (zl (za (R0 fun _ => st (yC rfl (st (lD dd0 Tryz.isAgg22 rfl (zb (N.b4) rfl) (st (Xu rfl (st (lD (Iv (c.ctyp)) lT rfl (zb (N.b3) rfl) ?_))))))))))
 have hi34 : c.ctyp.toNat < d.types.length := bo
 refine st (zz (k := 1) (i := c.ctyp) Tryz.underlying22 vT rfl hdd0.sl rfl ⟨by omega, by omega⟩ ?_)
 have bq : c.ctyp.toNat < d.types.length := bo
 obtain ⟨bF, Q, aw⟩ := hdd0.typD bq
 have hsm37 : ((d.types.getD c.ctyp.toNat default).fields).length * 48 ≤ 140737488355328 := Q.small
 have bG := N.cells bF (hdd0.foot (ne_of_lt bq))
 refine st (zf (k := 1) qR vT rfl rfl bG (st (zr Tryz.zeroValue53 ?_)))
 intro w41 D dr
 let ai := Blk D ((d.types.getD c.ctyp.toNat default).cells (zP W (sb dd0) (so dd0 + c.ctyp.toNat * 1 + 0))).toArray 53
 have br := N.new dr
 refine stn (zp (v := .agg ((d.types.getD c.ctyp.toNat default).cells (zP W (sb dd0) (so dd0 + c.ctyp.toNat * 1 + 0))).toArray) (c' := ((d.types.getD c.ctyp.toNat default).cells (zP W (sb dd0) (so dd0 + c.ctyp.toNat * 1 + 0))).toArray) vT rfl rfl (br.b0) (zW ⟨Q.sl.one, trivial⟩) yqc rfl ?_)
 intro w43 ds
 have aM := br.pt0 ds
 refine zd (za (R0 fun _ => st (mV (Ix vb 0) (st (Xu rfl (st (lD (Iv (c.ctyp)) lT rfl (zb (aM.b4) rfl) (st (Wz rfl (st (lD (Iv (c.cagg)) lT rfl (zb (aM.b4) rfl) (st (cL Tryz.call12 (UM (ty := c.ctyp) (no := c.cagg) oc.ctyp oc.cagg (aM.mv6)) ?_)))))))))))))
 rintro _ w48 ⟨ad, rfl, bu⟩
 let ek := (yT d (c.ctyp, c.cagg) V).cells ad
 have bv := bu.r1
 have hr50s : _ * 32 ≤ _ := bv.2
 refine st (mV (.tuple #[.agg ek.toArray, .bool ((zq d V (c.ctyp, c.cagg)).isSome)]) (st (zj (vs := [.agg ek.toArray, .bool ((zq d V (c.ctyp, c.cagg)).isSome)]) (i := 0) (v := .agg ek.toArray) rfl rfl (st (zj (vs := [.agg ek.toArray, .bool ((zq d V (c.ctyp, c.cagg)).isSome)]) (i := 1) (v := .bool ((zq d V (c.ctyp, c.cagg)).isSome)) rfl rfl (st (zr Tryz.zeroValue47 ?_)))))))
 intro w53 y dt
 have bw := bu.new dt
 refine stn (zp (v := .agg ek.toArray) (c' := ek.toArray) Tryz.sizeOf47 rfl rfl (bw.b0) (zW ⟨rfl, bv.1.one, trivial⟩) yqc rfl ?_)
 intro w55 du
 have al := bw.pt0 du
 refine st (aS (.bool ((zq d V (c.ctyp, c.cagg)).isSome)) (zd (za (za (R0 fun _ => st (mV (.bool ((zq d V (c.ctyp, c.cagg)).isSome)) (st (yH (a := (zq d V (c.ctyp, c.cagg)).isSome) rfl (zd ?_)))))))))
 refine US (fun σ I => ∃ (O : Value) (ρ : Env), σ = ye ρ [(1, Ix sq 0), (2, Ix vb 0), (3, Iv o), (4, Iv start), (6, Ix b9 0), (11, Ix s 0), (12, Ix F 0), (13, .bool false), (14, Iv 0), (18, Ix D 0), (19, Ix y 0)] ∧ Sep G W ((Blk y ((xB d (c.ctyp, c.cagg) V).cells O).toArray 47) :: (ViewO vb d V V) :: (RowE (α := Cel) own 99 O (zY d (c.ctyp, c.cagg) V)) :: ai :: eu :: (DepO C (((yN L c.ckey).getD default).deps)) :: (Blk F #[Iv 0, Iv 0, Iv 0, (Iz), Iv 0, Iv 0, Iv 0, Iv 0, Iv 0, Iv 0] 41) :: eo :: el :: Rs) I) ?_ ?_
 cases am : !((zq d V (c.ctyp, c.cagg)).isSome)
 try simp only [ze] at am
 refine zg rfl (zl ?_)
 have aN : (stL d (c.ctyp, c.cagg) V) = zY d (c.ctyp, c.cagg) V := JP (by simpa using am)
 rw [aN] at al
 exact ⟨rfl, ad, _, xa ⟨(show _ = (Ix sq 0 : Value) from rfl), (show _ = (Ix vb 0 : Value) from rfl), (show _ = (Iv o : Value) from rfl), (show _ = (Iv start : Value) from rfl), (show _ = (Ix b9 0 : Value) from rfl), (show _ = (Ix s 0 : Value) from rfl), (show _ = (Ix F 0 : Value) from rfl), (show _ = (.bool false : Value) from rfl), (show _ = (Iv 0 : Value) from rfl), (show _ = (Ix D 0 : Value) from rfl), (show _ = (Ix y 0 : Value) from rfl), trivial⟩, al⟩
 try simp only [ze] at am
 refine zh rfl (R0 fun _ => st (zf (k := 1) qR vT rfl rfl (CellsAt.all (al.b3)) (st (cL Tryz.call13 (zaL (t := (d.types.getD c.ctyp.toNat default)) Q aw al) ?_))))
 rintro bx w60 ⟨_, rfl, aO⟩
 have bz := aO.r0
 have hr62s : _ * 32 ≤ _ := bz.2
 refine st (xV rfl (stn (yn (v := bx) (c := [Iv ((yT d (c.ctyp, c.cagg) V).ver), ad]) (c' := [Iv ((yT d (c.ctyp, c.cagg) V).ver), bx]) Tryz.sizeOf45 rfl rfl (aO.b1) bz.1.one rfl rfl ?_)))
 intro w63 dv
 have bA := aO.pt1 dv
 refine zd ?_
 have aN : (List.replicate (d.types.getD c.ctyp.toNat default).fields.length (⟨0, []⟩ : Cel)) = zY d (c.ctyp, c.cagg) V := (Kk (d := d) (k := (c.ctyp, c.cagg)) (L := V) (Qh (by simpa using am))).symm
 rw [aN] at bA
 exact ⟨rfl, bx, _, xa ⟨(show _ = (Ix sq 0 : Value) from rfl), (show _ = (Ix vb 0 : Value) from rfl), (show _ = (Iv o : Value) from rfl), (show _ = (Iv start : Value) from rfl), (show _ = (Ix b9 0 : Value) from rfl), (show _ = (Ix s 0 : Value) from rfl), (show _ = (Ix F 0 : Value) from rfl), (show _ = (.bool false : Value) from rfl), (show _ = (Iv 0 : Value) from rfl), (show _ = (Ix D 0 : Value) from rfl), (show _ = (Ix y 0 : Value) from rfl), trivial⟩, ((bA.s10_abcefghij).s9_bcadefghi)⟩
 rintro _ w68 ⟨O, ρj1, rfl, dw⟩
 let en := Blk y ((xB d (c.ctyp, c.cagg) V).cells O).toArray 47
 refine za (R0 fun _ => st (xQ (vals := [Ix s 0, Ix y 0]) rfl (st (xQ (vals := [Ix D 0, Ix y 0, Ix s 0]) rfl (st (zS (k := 1) (parts' := [(0, .func (.func 29) #[] #[Ix s 0, Ix y 0]), (1, .func (.func 30) #[] #[Ix D 0, Ix y 0, Ix s 0])]) (c := #[.func (.func 29) #[] #[Ix s 0, Ix y 0], .func (.func 30) #[] #[Ix D 0, Ix y 0, Ix s 0]]) oR tR Tryz.zeroValue73 dc rfl kr ?_))))))
 intro T Z dx
 let ej := Blk Z #[.func (.func 29) #[] #[Ix s 0, Ix y 0], .func (.func 30) #[] #[Ix D 0, Ix y 0, Ix s 0]] 73
 refine st (aS (Iy Z 2 2) (zd (za (za ?_))))
 obtain ⟨G75, dy, ag, dz, aP⟩ := ((dw.new dx).mv3).lend
 have an := RowE.rd dy
 have hrd81s : _ * 32 ≤ _ := an.small
 obtain ⟨G83, bB, Y, dB, aQ⟩ := (dz.mv1).lend
 obtain ⟨G90, dC, J, dD, aR⟩ := (dB.mv2).lend
 obtain ⟨U, P, E, bH, ao⟩ := (dD.mv5).lend
 refine R0 fun _ => st (mV (Iy Z 2 2) (st (zL (n := 2) oR rfl (⟨_, 2, rfl, Nat.le_refl _, fun _ => ⟨_, _, rfl⟩⟩ : IsSl _ 2) (st (mV (Iv 0) (zd (zw ?_)))))))
 refine yh (fun mq σ I => ∃ (k : Nat) (ρ : Env), mq = 2 - k ∧ σ = ye ρ [(1, Ix sq 0), (3, Iv o), (4, Iv start), (11, Ix s 0), (12, Ix F 0), (13, .bool false), (14, Iv 0), (66, (Iy Z 2 2)), (67, Iw 2), (68, Iw k)] ∧ (k ≤ 2) ∧ (0 < k → xp c (xB d (c.ctyp, c.cagg) V).ver = 0) ∧ (1 < k → yP (d.types.getD c.ctyp.toNat default) (xB d (c.ctyp, c.cagg) V).cls c.cfield c.cop c.carg = 0) ∧ Sep U T ((Blk Z #[.func (.func 29) #[] #[Ix s 0, Ix y 0], .func (.func 30) #[] #[Ix D 0, Ix y 0, Ix s 0]] 73) :: (ViewO vb d V V) :: (Blk aj (((yN L c.ckey).getD default).cells C).toArray 41) :: (DepO C (((yN L c.ckey).getD default).deps)) :: (Blk F #[Iv 0, Iv 0, Iv 0, (Iz), Iv 0, Iv 0, Iv 0, Iv 0, Iv 0, Iv 0] 41) :: (Blk b9 (d.cells dd0 dd1).toArray 25) :: Rs) I) ⟨0, _, rfl, sSf, by omega, (fun h => absurd h om), (fun h => absurd h om), bH⟩ ?_
 rintro m104 σ105 w103 ⟨k, ρl1, rfl, rfl, hk2, bC, ei, aa⟩
 refine za (R0 fun _ => st (zF (k := .i64) (a := ((k : Nat) : Int)) (b := ((2 : Nat) : Int)) rfl rfl (zd (za ?_))))
 cases ab : decide (((k : Nat) : Int) < ((2 : Nat) : Int))
 have hc107r := ab
 have ab := fD ab
 have dE := bC om
 have dG := ei om
 refine zg rfl (yi (yb (za ?_)))
 refine WD6 ((fun TT ac => WF [fun vals I => Sep U T (ac :: TT) I, fun vals I => ∃ (g : Value), (vals 3 = (g : Value)) ∧ Sep U T ((RowE (α := Int) own 3 g (zu n L)) :: ac :: TT) I, fun _ _ => True, fun vals I => ∃ (g : Value), (vals 3 = (g : Value)) ∧ (vals 5 = (Iv (zK L) : Value)) ∧ Sep U T ((RowE (α := Int) own 3 g (zu n L)) :: ac :: TT) I, fun _ _ => True, fun _ _ => True, fun _ _ => True, fun vals I => ∃ (g : Value) (e : Value), (vals 3 = (g : Value)) ∧ (vals 5 = (Iv (zK L) : Value)) ∧ (vals 8 = (.tuple #[.agg ((evE c o (zu n L) (max (zK L) start)).cells e).toArray, Iv ((evN o (zu n L) (max (zK L) start)))] : Value)) ∧ Sep U T ((RowE (α := Int) own 3 g (zu n L)) :: (RowE (α := Int) own 3 e ((evE c o (zu n L) (max (zK L) start)).deps)) :: ac :: TT) I, fun vals I => ∃ (j : Nat), (vals 12 = (Ix j 0 : Value)) ∧ Sep U T ((Blk j #[Iv 0, Iv 0, Iv 0, (Iz), Iv 0, Iv 0, Iv 0, Iv 0, Iv 0, Iv 0] 41) :: ac :: TT) I, fun vals I => ∃ (g : Value) (j : Nat), (vals 3 = (g : Value)) ∧ (vals 12 = (Ix j 0 : Value)) ∧ Sep U T ((Blk j #[Iv 0, Iv 0, Iv 0, (Iz), Iv 0, Iv 0, Iv 0, Iv 0, Iv 0, Iv 0] 41) :: (RowE (α := Int) own 3 g (zu n L)) :: ac :: TT) I, fun _ _ => True, fun vals I => ∃ (g : Value) (j : Nat), (vals 3 = (g : Value)) ∧ (vals 5 = (Iv (zK L) : Value)) ∧ (vals 12 = (Ix j 0 : Value)) ∧ Sep U T ((Blk j #[Iv 0, Iv 0, Iv 0, (Iz), Iv 0, Iv 0, Iv 0, Iv 0, Iv 0, Iv 0] 41) :: (RowE (α := Int) own 3 g (zu n L)) :: ac :: TT) I, fun _ _ => True, fun _ _ => True, fun _ _ => True, fun vals I => ∃ (g : Value) (e : Value) (j : Nat), (vals 3 = (g : Value)) ∧ (vals 5 = (Iv (zK L) : Value)) ∧ (vals 8 = (.tuple #[.agg ((evE c o (zu n L) (max (zK L) start)).cells e).toArray, Iv ((evN o (zu n L) (max (zK L) start)))] : Value)) ∧ (vals 12 = (Ix j 0 : Value)) ∧ Sep U T ((Blk j #[Iv 0, Iv 0, Iv 0, (Iz), Iv 0, Iv 0, Iv 0, Iv 0, Iv 0, Iv 0] 41) :: (RowE (α := Int) own 3 g (zu n L)) :: (RowE (α := Int) own 3 e ((evE c o (zu n L) (max (zK L) start)).deps)) :: ac :: TT) I, fun _ _ => True, fun _ _ => True, fun _ _ => True, fun _ _ => True, fun _ _ => True, fun _ _ => True, fun _ _ => True, fun _ _ => True, fun _ _ => True, fun _ _ => True, fun _ _ => True, fun _ _ => True, fun _ _ => True, fun _ _ => True, fun _ _ => True, fun vals I => ∃ (g : Value) (e : Value) (j : Nat), (vals 3 = (g : Value)) ∧ (vals 5 = (Iv (zK L) : Value)) ∧ (vals 8 = (.tuple #[.agg ((evE c o (zu n L) (max (zK L) start)).cells e).toArray, Iv ((evN o (zu n L) (max (zK L) start)))] : Value)) ∧ (vals 12 = (Ix j 0 : Value)) ∧ Sep U T ((Blk j ((evE c o (zu n L) (max (zK L) start)).cells e).toArray 41) :: (RowE (α := Int) own 3 g (zu n L)) :: (RowE (α := Int) own 3 e ((evE c o (zu n L) (max (zK L) start)).deps)) :: ac :: TT) I]) ((ViewO vb d V V) :: eu :: (DepO C (((yN L c.ckey).getD default).deps)) :: (Blk F #[Iv 0, Iv 0, Iv 0, (Iz), Iv 0, Iv 0, Iv 0, Iv 0, Iv 0, Iv 0] 41) :: el :: Rs) ej) (AF [Vl 0 (.agg (c.cells).toArray), Vl 1 (Iv o), Vl 2 (Ix sq 0), fun _ => True, Vl 4 (Ix sq 0), fun _ => True, Vl 6 (Iv start), Vl 7 (Iv (max (zK L) start)), fun _ => True, fun vals => ∀ (e : Value), vals 8 = (.tuple #[.agg ((evE c o (zu n L) (max (zK L) start)).cells e).toArray, Iv ((evN o (zu n L) (max (zK L) start)))] : Value) → vals 9 = (.tuple #[.agg ((evE c o (zu n L) (max (zK L) start)).cells e).toArray, Iv ((evN o (zu n L) (max (zK L) start)))] : Value), fun vals => ∀ (e : Value), vals 8 = (.tuple #[.agg ((evE c o (zu n L) (max (zK L) start)).cells e).toArray, Iv ((evN o (zu n L) (max (zK L) start)))] : Value) → vals 10 = (.agg ((evE c o (zu n L) (max (zK L) start)).cells e).toArray : Value), Vl 11 (Iv ((evN o (zu n L) (max (zK L) start)))), fun _ => True, fun _ => True, Vl 14 (Iv ((evN o (zu n L) (max (zK L) start))))]) [[], [], [], [2], [], [2, 3, 4], [], [2, 3, 4, 5, 6], (rg 8), (rg 9), (rg 10), (rg 10), [], [0, 1, 2, 3, 4, 5, 6, 7, 8, 9, 10, 12], (rg 14)] [3, 5, 8, 12, 13] [[0, 1, 3, 8, 9, 11], [0, 1, 3, 8, 9, 11], [0, 8], [0, 8], [0, 1, 8, 9], [1, 9], [0, 1, 3, 8, 9, 11], [3, 11], [3, 11], [7, 15], [7, 15], [7, 15, 31], [0, 1, 3, 7], [15], [31]] aa ⟨?_, fun _ _ _ _ _ _ => obl rfl (mV (Iv o) dR), fun _ _ _ _ _ _ => obl rfl (mV (Ix sq 0) dR), ?_, fun _ _ _ _ _ _ => obl rfl (mV (Ix sq 0) dR), ?_, fun _ _ _ _ _ _ => obl rfl (mV (Iv start) dR), ?_, ?_, ?_, ?_, ?_, ?_, ?_, fun _ _ _ _ _ bI => obl rfl (zR (v := Iv ((evN o (zu n L) (max (zK L) start)))) (bI 11 dc) dR), trivial⟩ ?_ (hlocA := yW ⟨dA, dA, dA, dT, dA, dT, dA, dA, dT, fun vals A B h => fun e H => (B 9 (.inl rfl)).trans (h e ((B 8 (.inr dc)).symm.trans H)), fun vals A B h => fun e H => (B 10 (.inl rfl)).trans (h e ((B 8 (.inr dc)).symm.trans H)), dA, dT, dT, dA, trivial⟩)
 intro dH vals w239 bJ R hA240
 have ax : dH ∈ [0, 1, 3, 8, 9, 11] := bJ
 simp only [List.mem_cons, List.not_mem_nil, or_false] at ax
 rcases ax with rfl | rfl | rfl | rfl | rfl | rfl
 have bK : Sep _ _ _ _ := R
 exact obl rfl (zf (k := 7) pT qT rfl rfl (CellsAt.all (bK.gblk P)) dR)
 obtain ⟨g, l, bL⟩ := R
 exact obl rfl (zf (k := 7) pT qT rfl rfl (CellsAt.all (bL.gblk P)) dR)
 obtain ⟨g, l, m, bM⟩ := R
 exact obl rfl (zf (k := 7) pT qT rfl rfl (CellsAt.all (bM.gblk P)) dR)
 obtain ⟨j, z, bN⟩ := R
 exact obl rfl (zf (k := 7) pT qT rfl rfl (CellsAt.all (bN.gblk P)) dR)
 obtain ⟨g, j, l, z, bO⟩ := R
 exact obl rfl (zf (k := 7) pT qT rfl rfl (CellsAt.all (bO.gblk P)) dR)
 obtain ⟨g, j, l, m, z, bP⟩ := R
 exact obl rfl (zf (k := 7) pT qT rfl rfl (CellsAt.all (bP.gblk P)) dR)
 intro dI vals w270 bQ aT aU
 have ay : dI ∈ [0, 8] := bQ
 simp only [List.mem_cons, List.not_mem_nil, or_false] at ay
 rcases ay with rfl | rfl
 have bR : Sep _ _ _ _ := aT
 refine obl rfl ((zB (f := 33) (vals := [Ix sq 0]) (cap := []) rfl (yE ⟨(aU 2 dc), trivial⟩) lY (KP  (HP.base (HP.base (HP.base (HP.base hsq ag) Y) J) E) bR) ?_))
 rintro g w277 ⟨_, rfl, aV⟩
 have bS := aV.r0
 have hr279s : _ * 8 ≤ _ := bS.2
 exact fun A B u => ⟨(Exists.intro g (And.intro B aV)), trivial⟩
 obtain ⟨j, z, bT⟩ := aT
 refine obl rfl ((zB (f := 33) (vals := [Ix sq 0]) (cap := []) rfl (yE ⟨(aU 2 dc), trivial⟩) lY (KP  (HP.base (HP.base (HP.base (HP.base hsq ag) Y) J) E) bT) ?_))
 rintro g w283 ⟨_, rfl, aW⟩
 have bU := aW.r0
 have hr285s : _ * 8 ≤ _ := bU.2
 exact fun A B u => ⟨(Exists.intro g (Exists.intro j (And.intro B (And.intro ((u 12 dc).trans z) (aW.mv1))))), trivial⟩
 intro dJ vals w293 bV aX aY
 have az : dJ ∈ [1, 9] := bV
 simp only [List.mem_cons, List.not_mem_nil, or_false] at az
 rcases az with rfl | rfl
 obtain ⟨g, l, bW⟩ := aX
 refine obl rfl ((zB (f := 20) (vals := [Ix sq 0]) (cap := []) rfl (yE ⟨(aY 4 dc), trivial⟩) mY (Jn  (HP.base (HP.base (HP.base (HP.base hsq ag) Y) J) E) bW) ?_))
 rintro _ w299 ⟨rfl, bX⟩
 exact fun A B u => ⟨(Exists.intro g (And.intro ((u 3 dc).trans l) (And.intro B bX))), trivial⟩
 obtain ⟨g, j, l, z, bY⟩ := aX
 refine obl rfl ((zB (f := 20) (vals := [Ix sq 0]) (cap := []) rfl (yE ⟨(aY 4 dc), trivial⟩) mY (Jn  (HP.base (HP.base (HP.base (HP.base hsq ag) Y) J) E) bY) ?_))
 rintro _ w303 ⟨rfl, bZ⟩
 exact fun A B u => ⟨(Exists.intro g (Exists.intro j (And.intro ((u 3 dc).trans l) (And.intro B (And.intro ((u 12 dc).trans z) bZ))))), trivial⟩
 intro dK vals w311 ca aZ ba
 have aA : dK ∈ [3, 11] := ca
 simp only [List.mem_cons, List.not_mem_nil, or_false] at aA
 rcases aA with rfl | rfl
 obtain ⟨g, l, m, hS315⟩ := aZ
 exact obl rfl (Yx (k := .i64) (a := zK L) (b := start) m (ba 6 dc) dR)
 obtain ⟨g, j, l, m, z, hS317⟩ := aZ
 exact obl rfl (Yx (k := .i64) (a := zK L) (b := start) m (ba 6 dc) dR)
 intro dL vals w320 cb bb S
 have aB : dL ∈ [3, 11] := cb
 simp only [List.mem_cons, List.not_mem_nil, or_false] at aB
 rcases aB with rfl | rfl
 obtain ⟨g, l, m, cc⟩ := bb
 refine obl rfl ?_
 obtain ⟨G328, cd, hB331, ce, cf⟩ := cc.lend
 have aC := RowE.rd cd
 have hrd334s : _ * 8 ≤ _ := aC.small
 refine (zB (f := 32) (vals := [.agg (c.cells).toArray, Iv o, g, Iv (max (zK L) start)]) (cap := []) rfl (yE ⟨(S 0 dc), (S 1 dc), l, (S 7 dc), trivial⟩) nY (Vt (c := c) (o := o) (v := zu n L) (vv := g) (lam := max (zK L) start) oc om aC (by have h1 : InR (zK L) := (by omega); have h2 : InR start := (by omega); omega) ce) ?_)
 rintro _ w336 ⟨e, rfl, bd⟩
 have cg := bd.r0
 have hr338s : _ * 8 ≤ _ := cg.2
 have ch := cf _ _ bd
 exact fun A B u => ⟨(Exists.intro g (Exists.intro e (And.intro ((u 3 dc).trans l) (And.intro ((u 5 dc).trans m) (And.intro B ch))))), trivial⟩
 obtain ⟨g, j, l, m, z, ci⟩ := bb
 refine obl rfl ?_
 obtain ⟨G345, cj, hB348, ck, cl⟩ := (ci.mv1).lend
 have aD := RowE.rd cj
 have hrd351s : _ * 8 ≤ _ := aD.small
 refine (zB (f := 32) (vals := [.agg (c.cells).toArray, Iv o, g, Iv (max (zK L) start)]) (cap := []) rfl (yE ⟨(S 0 dc), (S 1 dc), l, (S 7 dc), trivial⟩) nY (Vt (c := c) (o := o) (v := zu n L) (vv := g) (lam := max (zK L) start) oc om aD (by have h1 : InR (zK L) := (by omega); have h2 : InR start := (by omega); omega) ck) ?_)
 rintro _ w353 ⟨e, rfl, be⟩
 have cm := be.r0
 have hr355s : _ * 8 ≤ _ := cm.2
 have cn := cl _ _ be
 exact fun A B u => ⟨(Exists.intro g (Exists.intro e (Exists.intro j (And.intro ((u 3 dc).trans l) (And.intro ((u 5 dc).trans m) (And.intro B (And.intro ((u 12 dc).trans z) (cn.mv2)))))))), trivial⟩
 intro dM vals w359 co bf hA360
 have aE : dM ∈ [7, 15] := co
 simp only [List.mem_cons, List.not_mem_nil, or_false] at aE
 rcases aE with rfl | rfl
 obtain ⟨g, e, l, m, q, hS363⟩ := bf
 refine obl rfl (ya (v := .tuple #[.agg ((evE c o (zu n L) (max (zK L) start)).cells e).toArray, Iv ((evN o (zu n L) (max (zK L) start)))]) q (fun A B u => ⟨rfl, ?_⟩))
 intro ah H
 rw [u 8 (by decide)] at H; cases q.symm.trans H
 exact B
 obtain ⟨g, e, j, l, m, q, z, hS364⟩ := bf
 refine obl rfl (ya (v := .tuple #[.agg ((evE c o (zu n L) (max (zK L) start)).cells e).toArray, Iv ((evN o (zu n L) (max (zK L) start)))]) q (fun A B u => ⟨rfl, ?_⟩))
 intro ah H
 rw [u 8 (by decide)] at H; cases q.symm.trans H
 exact B
 intro dN vals w366 cp bg bh
 have aF : dN ∈ [7, 15] := cp
 simp only [List.mem_cons, List.not_mem_nil, or_false] at aF
 rcases aF with rfl | rfl
 obtain ⟨g, e, l, m, q, hS370⟩ := bg
 let er := (evE c o (zu n L) (max (zK L) start)).cells e
 have dO : vals 9 = (.tuple #[.agg er.toArray, Iv ((evN o (zu n L) (max (zK L) start)))] : Value) := bh 9 dc e q
 refine obl rfl (zj (vs := [.agg er.toArray, Iv ((evN o (zu n L) (max (zK L) start)))]) (i := 0) (v := .agg er.toArray) dO rfl (fun A B u => ⟨rfl, ?_⟩))
 intro ah H
 rw [u 8 (by decide)] at H; cases q.symm.trans H
 exact B
 obtain ⟨g, e, j, l, m, q, z, hS372⟩ := bg
 let es := (evE c o (zu n L) (max (zK L) start)).cells e
 have dP : vals 9 = (.tuple #[.agg es.toArray, Iv ((evN o (zu n L) (max (zK L) start)))] : Value) := bh 9 dc e q
 refine obl rfl (zj (vs := [.agg es.toArray, Iv ((evN o (zu n L) (max (zK L) start)))]) (i := 0) (v := .agg es.toArray) dP rfl (fun A B u => ⟨rfl, ?_⟩))
 intro ah H
 rw [u 8 (by decide)] at H; cases q.symm.trans H
 exact B
 intro dQ vals w375 cq ap aq
 have aG : dQ ∈ [7, 15, 31] := cq
 simp only [List.mem_cons, List.not_mem_nil, or_false] at aG
 rcases aG with rfl | rfl | rfl
 obtain ⟨g, e, l, m, q, hS379⟩ := ap
 have dS : vals 9 = (.tuple #[.agg ((evE c o (zu n L) (max (zK L) start)).cells e).toArray, Iv ((evN o (zu n L) (max (zK L) start)))] : Value) := aq 9 dc e q
 exact obl rfl (zj (vs := [.agg ((evE c o (zu n L) (max (zK L) start)).cells e).toArray, Iv ((evN o (zu n L) (max (zK L) start)))]) (i := 1) (v := Iv ((evN o (zu n L) (max (zK L) start)))) dS rfl dR)
 obtain ⟨g, e, j, l, m, q, z, hS381⟩ := ap
 have dU : vals 9 = (.tuple #[.agg ((evE c o (zu n L) (max (zK L) start)).cells e).toArray, Iv ((evN o (zu n L) (max (zK L) start)))] : Value) := aq 9 dc e q
 exact obl rfl (zj (vs := [.agg ((evE c o (zu n L) (max (zK L) start)).cells e).toArray, Iv ((evN o (zu n L) (max (zK L) start)))]) (i := 1) (v := Iv ((evN o (zu n L) (max (zK L) start)))) dU rfl dR)
 obtain ⟨g, e, j, l, m, q, z, hS383⟩ := ap
 have dV : vals 9 = (.tuple #[.agg ((evE c o (zu n L) (max (zK L) start)).cells e).toArray, Iv ((evN o (zu n L) (max (zK L) start)))] : Value) := aq 9 dc e q
 exact obl rfl (zj (vs := [.agg ((evE c o (zu n L) (max (zK L) start)).cells e).toArray, Iv ((evN o (zu n L) (max (zK L) start)))]) (i := 1) (v := Iv ((evN o (zu n L) (max (zK L) start)))) dV rfl dR)
 intro dW vals w386 cr ae hA387
 have aH : dW ∈ [0, 1, 3, 7] := cr
 simp only [List.mem_cons, List.not_mem_nil, or_false] at aH
 rcases aH with rfl | rfl | rfl | rfl
 have cs : Sep _ _ _ _ := ae
 refine obl rfl ((zr nT ?_))
 intro w393 j ct
 exact fun A B u => ⟨(Exists.intro j (And.intro B (cs.new ct))), trivial⟩
 obtain ⟨g, l, cu⟩ := ae
 refine obl rfl ((zr nT ?_))
 intro w398 j cv
 exact fun A B u => ⟨(Exists.intro g (Exists.intro j (And.intro ((u 3 dc).trans l) (And.intro B (cu.new cv))))), trivial⟩
 obtain ⟨g, l, m, cw⟩ := ae
 refine obl rfl ((zr nT ?_))
 intro w403 j cx
 exact fun A B u => ⟨(Exists.intro g (Exists.intro j (And.intro ((u 3 dc).trans l) (And.intro ((u 5 dc).trans m) (And.intro B (cw.new cx)))))), trivial⟩
 obtain ⟨g, e, l, m, q, cy⟩ := ae
 refine obl rfl ((zr nT ?_))
 intro w408 j cz
 exact fun A B u => ⟨(Exists.intro g (Exists.intro e (Exists.intro j (And.intro ((u 3 dc).trans l) (And.intro ((u 5 dc).trans m) (And.intro ((u 8 dc).trans q) (And.intro B (cy.new cz)))))))), trivial⟩
 intro dX vals w411 cC cD cE
 have aI : dX ∈ [15] := cC
 simp only [List.mem_cons, List.not_mem_nil, or_false] at aI
 subst aI
 obtain ⟨g, e, j, l, m, q, z, ar⟩ := cD
 let et := (evE c o (zu n L) (max (zK L) start)).cells e
 refine obl rfl ?_
 have dY : vals 10 = (.agg et.toArray : Value) := cE 10 dc e q
 have bi := ar.r2
 have hr419s : _ * 8 ≤ _ := bi.2
 refine (zp (v := .agg et.toArray) (c' := et.toArray) kT z dY (ar.b0) (zW ⟨rfl, rfl, rfl, bi.1.one, rfl, rfl, rfl, rfl, rfl, rfl, trivial⟩) yqc rfl ?_)
 intro w417 cF
 exact fun A B u => ⟨(Exists.intro g (Exists.intro e (Exists.intro j (And.intro ((u 3 dc).trans l) (And.intro ((u 5 dc).trans m) (And.intro ((u 8 dc).trans q) (And.intro ((u 12 dc).trans z) (ar.pt0 cF)))))))), trivial⟩
 intro vals w427 cG cH
 obtain ⟨g, e, j, l, m, q, z, af⟩ := cG
 let em := (evE c o (zu n L) (max (zK L) start)).cells e
 have dZ := cH 14 dc
 refine zT (kv := [(1, Ix sq 0), (3, Iv o), (4, Iv start), (11, Ix s 0), (12, Ix F 0), (13, .bool false), (14, Iv 0), (66, (Iy Z 2 2)), (67, Iw 2), (68, Iw k), (69, .bool false), (25, Ix j 0), (26, Iv ((evN o (zu n L) (max (zK L) start))))]) ⟨rfl, rfl, rfl, rfl, rfl, rfl, rfl, rfl, rfl, rfl, rfl, (by exact z), (by exact dZ), trivial⟩ (fun ρw427 => (zd (za (R0 fun _ => st (zf (k := 10) mT kT rfl rfl (CellsAt.all (af.b0)) (st (mV (Iv ((evN o (zu n L) (max (zK L) start)))) (st (zN (k := .i64) (a := (evN o (zu n L) (max (zK L) start))) (b := 0) rfl rfl (st (mV (Iv ((evN o (zu n L) (max (zK L) start)))) ?_)))))))))))
 have bj := af.r2
 have hr434s : _ * 8 ≤ _ := bj.2
 refine stn (zp (v := .agg em.toArray) (c' := em.toArray) kT rfl rfl (af.b7) (zW ⟨rfl, rfl, rfl, bj.1.one, rfl, rfl, rfl, rfl, rfl, rfl, trivial⟩) yqc rfl ?_)
 intro bD cI
 have bk := af.pt7 cI
 refine st (aS (.bool (decide ((evN o (zu n L) (max (zK L) start)) = 0))) (st (aS (Iv ((evN o (zu n L) (max (zK L) start)))) (zd (zk (Vc (b := F) wT mT kT rfl rfl (CellsAt.all (bk.b7)) (show _ = (.bool (decide ((evN o (zu n L) (max (zK L) start)) = 0)) : Value) from rfl) (show _ = (Iv ((evN o (zu n L) (max (zK L) start))) : Value) from rfl) ?_))))))
 have cJ := ao _ _ bk
 have cK := aR _ _ cJ
 have cM := aQ _ _ cK
 have cN := aP _ _ cM
 have cO : Sep G W ((DepO e ((evE c o (zu n L) (max (zK L) start)).deps)) :: (RowE (α := Cel) own 99 O (zY d (c.ctyp, c.cagg) V)) :: en :: ai :: eo :: (Blk j em.toArray 41) :: (RowE (α := Int) own 3 g (zu n L)) :: ej :: (ViewO vb d V V) :: eu :: (DepO C (((yN L c.ckey).getD default).deps)) :: (Blk F em.toArray 41) :: el :: Rs) bD := Jj (cN.mv6)
 have cP : Sep G W ((ViewO vb d V V) :: (DepO e ((evE c o (zu n L) (max (zK L) start)).deps)) :: Rs) bD := cO.sel 13 [8, 0] (Nat.le_add_left _ _) rfl rfl
 rw [show exR d n L V o start c = ((evE c o (zu n L) (max (zK L) start)), decide ((evN o (zu n L) (max (zK L) start)) = 0), (evN o (zu n L) (max (zK L) start))) from KE hzc hzk dE dG]
 refine ⟨e, rfl, cP⟩
 have ab := tD ab
 refine zh rfl (zl (za (zw (za ?_))))
 rcases (show k = 0 ∨ k = 1 by omega) with rfl | rfl
 refine R0 fun _ => st (zn (k := 1) (i := 0) oR tR rfl (⟨_, 2, rfl, Nat.le_refl _, fun _ => ⟨_, _, rfl⟩⟩ : IsSl _ 2) rfl dc (st (lD (.func (.func 29) #[] #[Ix s 0, Ix y 0]) oY rfl (zb (aa.b0) rfl) (st (aS (.func (.func 29) #[] #[Ix s 0, Ix y 0]) (zd (za (R0 fun _ => st (mV (.func (.func 29) #[] #[Ix s 0, Ix y 0]) ?_)))))))))
 refine st (zB (f := 29) (vals := []) (cap := [Ix s 0, Ix y 0]) (show _ = (.func (.func 29) #[] #[Ix s 0, Ix y 0] : Value) from rfl) rfl Tryz.call29 (D_ex1 (bc := s) (c := c) (bs := y) (x := (xB d (c.ctyp, c.cagg) V)) (vx := O) P oc (Blk.base (Blk.base bB J) E) (RdS.base (RdS.base (RdS.base an Y) J) E) (⟨show InR ((zU (c.ctyp, c.cagg) V : Nat) : Int) by have := Yo (c.ctyp, c.cagg) V; omega⟩ : Sta.Ok (xB d (c.ctyp, c.cagg) V)) aa) ?_)
 rintro _ w443 ⟨rfl, au⟩
 refine st (aS (Iv ((xp c (xB d (c.ctyp, c.cagg) V).ver))) (zd (za (R0 fun _ => st (mV (Iv ((xp c (xB d (c.ctyp, c.cagg) V).ver))) (st (yr (k := .i64) (a := (xp c (xB d (c.ctyp, c.cagg) V).ver)) (b := 0) rfl rfl (zd ?_))))))))
 cases K : !decide ((xp c (xB d (c.ctyp, c.cagg) V).ver) = 0)
 have hc445r := K
 have K := yp K
 refine zg rfl (zl (R0 fun _ => ?_))
 have cQ : InR (0 + 1) := by omega
 refine st (zV (r := 0 + 1) (k := .i64) (a := 0) (b := 1) rfl rfl (zJ cQ) (st (mV (Iv (0 + 1)) (zd ?_))))
 exact ⟨_, by omega, 1, _, rfl, sSf, by omega, (fun _ => K), (fun h => absurd h om), au⟩
 have K := zC K
 have hzn := K
 refine zh rfl (za (yq (by kernel_rfl) (fun _ => (st (zI (parts' := []) (v := .agg (ev0.cells (Iz)).toArray) rfl (by simp +zetaDelta [Instr.build, Instr.fill, go_sem, Ev.cells, ev0]) (st (mV (Iv ((xp c (xB d (c.ctyp, c.cagg) V).ver))) (stn (zp (v := .agg (ev0.cells (Iz)).toArray) (c' := (ev0.cells (Iz)).toArray) kT rfl rfl (au.b4) (zW ⟨rfl, rfl, rfl, rfl, rfl, rfl, rfl, rfl, rfl, rfl, trivial⟩) yqc rfl ?_)))))))))
 intro ea cR
 have bl := au.pt4 cR
 refine st (aS (.bool false) (st (aS (Iv ((xp c (xB d (c.ctyp, c.cagg) V).ver))) (zd (zk (Vc (b := F) wT mT kT rfl rfl (CellsAt.all (bl.b4)) (show _ = (.bool false : Value) from rfl) (show _ = (Iv ((xp c (xB d (c.ctyp, c.cagg) V).ver)) : Value) from rfl) ?_))))))
 have cS := ao _ _ bl
 have cT := aR _ _ cS
 have cU := aQ _ _ cT
 have cV := aP _ _ cU
 have cW : Sep G W ((DepO (Iz) []) :: (RowE (α := Cel) own 99 O (zY d (c.ctyp, c.cagg) V)) :: en :: ai :: eo :: ej :: (ViewO vb d V V) :: eu :: (DepO C (((yN L c.ckey).getD default).deps)) :: ew :: el :: Rs) ea := cV.depoNil
 rw [show exR d n L V o start c = (ev0, false, (xp c (xB d (c.ctyp, c.cagg) V).ver)) from Jo hzc hzk hzn]
 refine ⟨(Iz), rfl, (cW.s11_ga)⟩
 refine R0 fun _ => st (zn (k := 1) (i := 1) oR tR rfl (⟨_, 2, rfl, Nat.le_refl _, fun _ => ⟨_, _, rfl⟩⟩ : IsSl _ 2) rfl dc (st (lD (.func (.func 30) #[] #[Ix D 0, Ix y 0, Ix s 0]) oY rfl (zb (aa.b0) rfl) (st (aS (.func (.func 30) #[] #[Ix D 0, Ix y 0, Ix s 0]) (zd (za (R0 fun _ => st (mV (.func (.func 30) #[] #[Ix D 0, Ix y 0, Ix s 0]) ?_)))))))))
 refine st (zB (f := 30) (vals := []) (cap := [Ix D 0, Ix y 0, Ix s 0]) (show _ = (.func (.func 30) #[] #[Ix D 0, Ix y 0, Ix s 0] : Value) from rfl) rfl Tryz.call30 (D_ex2 (bt := D) (t := (d.types.getD c.ctyp.toNat default)) (vt := (zP W (sb dd0) (so dd0 + c.ctyp.toNat * 1 + 0))) (bs := y) (x := (xB d (c.ctyp, c.cagg) V)) (vx := O) (bc := s) (c := c) (Blk.base dC E) (RdS.base (RdS.base (RdS.base (RdS.base Q ag) Y) J) E) aw (Blk.base (Blk.base bB J) E) (RdS.base (RdS.base (RdS.base an Y) J) E) (⟨show InR ((zU (c.ctyp, c.cagg) V : Nat) : Int) by have := Yo (c.ctyp, c.cagg) V; omega⟩ : Sta.Ok (xB d (c.ctyp, c.cagg) V)) P oc aa ((show Xz _ _ _ _ _ from eh.ask (hd.typ _ om) (hinv c.ctyp c.cagg ef eg)))) ?_)
 rintro _ w456 ⟨rfl, av⟩
 refine st (aS (Iv (yP (d.types.getD c.ctyp.toNat default) (xB d (c.ctyp, c.cagg) V).cls c.cfield c.cop c.carg)) (zd (za (R0 fun _ => st (mV (Iv (yP (d.types.getD c.ctyp.toNat default) (xB d (c.ctyp, c.cagg) V).cls c.cfield c.cop c.carg)) (st (yr (k := .i64) (a := yP (d.types.getD c.ctyp.toNat default) (xB d (c.ctyp, c.cagg) V).cls c.cfield c.cop c.carg) (b := 0) rfl rfl (zd ?_))))))))
 cases M : !decide ((yP (d.types.getD c.ctyp.toNat default) (xB d (c.ctyp, c.cagg) V).cls c.cfield c.cop c.carg) = 0)
 have hc458r := M
 have M := yp M
 refine zg rfl (zl (R0 fun _ => ?_))
 have cX : InR (1 + 1) := by omega
 refine st (zV (r := 1 + 1) (k := .i64) (a := 1) (b := 1) rfl rfl (zJ cX) (st (mV (Iv (1 + 1)) (zd ?_))))
 exact ⟨_, by omega, 2, _, rfl, sSf, by omega, (fun _ => bC om), (fun _ => M), av⟩
 have M := zC M
 have hzn := M
 refine zh rfl (za (yq (by kernel_rfl) (fun _ => (st (zI (parts' := []) (v := .agg (ev0.cells (Iz)).toArray) rfl (by simp +zetaDelta [Instr.build, Instr.fill, go_sem, Ev.cells, ev0]) (st (mV (Iv (yP (d.types.getD c.ctyp.toNat default) (xB d (c.ctyp, c.cagg) V).cls c.cfield c.cop c.carg)) (stn (zp (v := .agg (ev0.cells (Iz)).toArray) (c' := (ev0.cells (Iz)).toArray) kT rfl rfl (av.b4) (zW ⟨rfl, rfl, rfl, rfl, rfl, rfl, rfl, rfl, rfl, rfl, trivial⟩) yqc rfl ?_)))))))))
 intro eb cY
 have bm := av.pt4 cY
 refine st (aS (.bool false) (st (aS (Iv (yP (d.types.getD c.ctyp.toNat default) (xB d (c.ctyp, c.cagg) V).cls c.cfield c.cop c.carg)) (zd (zk (Vc (b := F) wT mT kT rfl rfl (CellsAt.all (bm.b4)) (show _ = (.bool false : Value) from rfl) (show _ = (Iv (yP (d.types.getD c.ctyp.toNat default) (xB d (c.ctyp, c.cagg) V).cls c.cfield c.cop c.carg) : Value) from rfl) ?_))))))
 have cZ := ao _ _ bm
 have da := aR _ _ cZ
 have db := aQ _ _ da
 have dd := aP _ _ db
 have de : Sep G W ((DepO (Iz) []) :: (RowE (α := Cel) own 99 O (zY d (c.ctyp, c.cagg) V)) :: en :: ai :: eo :: ej :: (ViewO vb d V V) :: eu :: (DepO C (((yN L c.ckey).getD default).deps)) :: ew :: el :: Rs) eb := dd.depoNil
 rw [show exR d n L V o start c = (ev0, false, yP (d.types.getD c.ctyp.toNat default) (xB d (c.ctyp, c.cagg) V).cls c.cfield c.cop c.carg) from QZ hzc hzk (bC (by omega)) hzn]
 refine ⟨(Iz), rfl, (de.s11_ga)⟩
 have hzk : (yN L c.ckey).isSome = true := by simpa using aL
 refine zh rfl (za (R0 fun _ => st (zf (k := 10) mT kT rfl rfl (CellsAt.all (N.b0)) (stn (zp (v := .agg p.toArray) (c' := p.toArray) kT rfl rfl (N.b2) (zW ⟨rfl, rfl, rfl, (N.depSl (i := 1) rfl).one, rfl, rfl, rfl, rfl, rfl, rfl, trivial⟩) yqc rfl ?_)))))
 intro ec df
 have bn := N.pt2 df
 refine st (aS (.bool false) (st (aS (Iv 0) (zd (zk (Vc (b := F) wT mT kT rfl rfl (CellsAt.all (bn.b2)) (show _ = (.bool false : Value) from rfl) (show _ = (Iv 0 : Value) from rfl) ?_))))))
 have dg : Sep G W ((ViewO vb d V V) :: (DepO C (((yN L c.ckey).getD default).deps)) :: Rs) ec := bn.sel 6 [5, 1] (Nat.le_add_left _ _) rfl rfl
 rw [show exR d n L V o start c = (((yN L c.ckey).getD default), false, 0) from XP hzc hzk]
 refine ⟨C, rfl, dg⟩
 have X := zC X
 have hzc : ¬ yY d c = 0 := by simpa using X
 refine zh rfl (za (yq (by kernel_rfl) (fun _ => (st (zI (parts' := []) (v := .agg (ev0.cells (Iz)).toArray) rfl (by simp +zetaDelta [Instr.build, Instr.fill, go_sem, Ev.cells, ev0]) (st (mV (Iv (yY d c)) (stn (zp (v := .agg (ev0.cells (Iz)).toArray) (c' := (ev0.cells (Iz)).toArray) kT rfl rfl (ak.b0) (zW ⟨rfl, rfl, rfl, rfl, rfl, rfl, rfl, rfl, rfl, rfl, trivial⟩) yqc rfl ?_)))))))))
 intro bE dh
 have bp := ak.pt0 dh
 refine st (aS (.bool false) (st (aS (Iv (yY d c)) (zd (zk (Vc (b := F) wT mT kT rfl rfl (CellsAt.all (bp.b0)) (show _ = (.bool false : Value) from rfl) (show _ = (Iv (yY d c) : Value) from rfl) ?_))))))
 have di : Sep G W ((DepO (Iz) []) :: ew :: eo :: el :: (ViewO vb d V V) :: Rs) bE := bp.depoNil
 have dj : Sep G W ((ViewO vb d V V) :: (DepO (Iz) []) :: Rs) bE := di.sel 5 [4, 0] (Nat.le_add_left _ _) rfl rfl
 rw [show exR d n L V o start c = (ev0, false, yY d c) from Wj hzc]
 refine ⟨(Iz), rfl, dj⟩

end Go.Proofs.YtbbabhaalmkbkaaGreatDoor
set_option maxRecDepth 8000
set_option maxHeartbeats 4000000
namespace Go.Proofs.YtbbabhaalmkbkaaGreatDoor
open Go.Proofs Go.RowKit

section
variable {n : Nat} {L l : List Ev} {e : Ev} {k : Nat}
theorem Qm (hk : k < l.length) : addL n (yR n (l.take k)) (l.getD k default) = yR n (l.take (k + 1)) := by
  rw [List.take_succ_eq_append_getElem hk, Ub, zA _ hk]
theorem Qv : (yR n (l.take k)).length ≤ l.length := Nat.le_trans ZE (List.length_take_le' ..)
theorem Ko {L : List Ev} (h : ∀ e ∈ L, e.Ok) : 0 ≤ zK L ∧ zK L ≤ 9223372036854775807 := by
  induction L with
  | nil => exact ⟨by decide, by decide⟩
  | cons e L ih =>
    have h1 := ih (fun x hx => h x (List.mem_cons_of_mem _ hx))
    have h2 := (h e (List.mem_cons_self ..)).lam
    show 0 ≤ max (zK L) e.lam ∧ max (zK L) e.lam ≤ _
    omega
end
theorem UZ {G : Nat → Prop} {W w : World} {Rs : List HP} {d : Dcl} {dd0 : Value} (hdd0 : RdS W G dd0 d.types) {dd1 : Value} (hdd1 : RdS W G dd1 d.projs) (od : d.Ok) {n : Nat} (hn : n ≤ 1000) {vl : Value} {l : List Ev} (hl : RdS W G vl l) (hKN : RdS W G (.slice (some ⟨0, 0, none⟩) 6 6) kindsL) (hS0 : Sep G W Rs w) (hd : DclOk d) (hl9 : l.length ≤ 1000) : Ret Tryz.prog 10 [.agg (d.cells dd0 dd1).toArray, .int .i64 ((n : Nat) : Int), vl] w (fun r w' => ∃ (bs : Nat) (bv : Nat), r = (.tuple #[.pointer (some ⟨bs, 0, none⟩), .pointer (some ⟨bv, 0, none⟩)] : Value) ∧ Sep G W ((SetO bs n (yR n l)) :: (ViewO bv d (zt d (yR n l)) (zt d (yR n l))) :: Rs) w') := by
 have hdd0s : _ * 24 ≤ _ := hdd0.small
 have hdd1s : _ * 40 ≤ _ := hdd1.small
 have hls : _ * 96 ≤ _ := hl.small
 have hKNs : _ * 8 ≤ _ := hKN.small
 refine zi (args := [.agg (d.cells dd0 dd1).toArray, Iw n, vl]) Tryz.func10 rfl rfl ?_
 refine za (R0 fun _ => st (zH (v := .agg (d.cells dd0 dd1).toArray) rfl ?_))
 intro w3 b2 aA
 refine st (aS (.pointer none) (st (aS (.pointer none) (zd (za (R0 fun _ => st (mV (Iw n) ?_)))))))
 refine st (cL Tryz.call25 (Qi (n := n) yqe (hS0.new aA)) ?_)
 rintro _ w6 ⟨j, rfl, aB⟩
 refine st (aS (Ix j 0) (zd (za (za (R0 fun _ => st (mV (Ix j 0) (st (xZ (b := j) (o := 0) Tryz.underlying33 rfl (zd (zg rfl (zl (za (za (R0 fun _ => st (aS (Iv 0) (zd (zw (yh (fun mq σ y => ∃ (k : Nat) (ρ : Env), mq = l.length - k ∧ σ = ye ρ [(1, Iw n), (2, vl), (3, Ix b2 0), (6, .pointer none), (7, .pointer none), (8, Ix j 0), (9, Iw k)] ∧ (k ≤ l.length) ∧ Sep G W ((SetO j n (yR n (l.take k))) :: (Blk b2 (d.cells dd0 dd1).toArray 25) :: Rs) y) ⟨0, _, rfl, sSf, Nat.zero_le _, aB⟩ ?_))))))))))))))))))
 rintro m9 σ10 S ⟨k, ρl1, rfl, rfl, hkk, q⟩
 refine za (za (R0 fun _ => st (mV (Iw k) (st (mV vl (st (zL (n := l.length) kR rfl hl.sl (st (zF (k := .i64) (a := ((k : Nat) : Int)) (b := ((l.length : Nat) : Int)) rfl rfl (zd ?_))))))))))
 cases s : decide (((k : Nat) : Int) < ((l.length : Nat) : Int))
 have s := fD s
 refine zg rfl (yi (yb (za ?_)))
 have aC : k = l.length := by omega
 rw [aC, List.take_length] at q
 have af : Sep G W ((SetO j n (yR n l)) :: (Blk b2 (d.cells dd0 dd1).toArray 25) :: Rs) S := q
 obtain ⟨L, M, z, ag, ah⟩ := af.lend
 obtain ⟨vv20, m21, R22, hb23, ai, hr25⟩ := SetO.sh M
 have hsm26 : (zu n (yR n l)).length * 8 ≤ 140737488355328 := ai.small
 refine WD4 ((fun N => WF [fun vals y => Sep L S (N :: Rs) y, fun vals y => ∃ (g : Value), (vals 3 = (g : Value)) ∧ Sep L S ((RowE (α := Ev) own 41 g (yR n l)) :: N :: Rs) y, fun vals y => ∃ (g : Value) (c : Nat), (vals 3 = (g : Value)) ∧ (vals 4 = (Ix c 0 : Value)) ∧ Sep L S ((RowE (α := Ev) own 41 g (yR n l)) :: (ViewO c d (zt d (yR n l)) (zt d (yR n l))) :: N :: Rs) y]) (Blk b2 (d.cells dd0 dd1).toArray 25)) (AF [Vl 0 (Ix j 0), Vl 1 (.agg (d.cells dd0 dd1).toArray), Vl 2 (Ix j 0), fun _ => True, fun _ => True, Vl 5 (Ix j 0), fun vals => ∀ (c : Nat), vals 4 = (Ix c 0 : Value) → vals 6 = (Ix c 0 : Value)]) [[], [], [], [2], [1, 2, 3], (rg 5), (rg 6)] [3, 4] [(0, 2), (0, 1), (0, 0), (0, 0), (1, 1), (2, 2), (2, 2)] ag ⟨fun _ _ _ _ _ _ _ => obl rfl (mV (Ix j 0) dR), ?_, fun _ _ _ _ _ _ _ => obl rfl (mV (Ix j 0) dR), ?_, ?_, fun _ _ _ _ _ _ T => obl rfl (zR (v := Ix j 0) (T 0 dc) dR), ?_, trivial⟩ ?_ (hlocA := yW ⟨dA, dA, dA, dT, dT, dA, fun vals t x h => fun c B => (x 6 (.inl rfl)).trans (h c ((x 4 (.inr dc)).symm.trans B)), trivial⟩)
 refine fun C _ _ aj ak D _ => ?_
 have hkk : C = 0 ∨ C = 1 := by have h1 : 0 ≤ C := aj; have h2 : C ≤ 1 := ak; omega
 rcases hkk with rfl | rfl
 have U : Sep _ _ _ _ := D
 exact obl rfl (zf (k := 2) rR sR rfl rfl (CellsAt.all (U.b0)) dR)
 obtain ⟨g, m, V⟩ := D
 exact obl rfl (zf (k := 2) rR sR rfl rfl (CellsAt.all (V.b1)) dR)
 refine ob1 0 fun vals _ (al : Sep _ _ _ _) am => (obl rfl ((zB (f := 15) (vals := [Ix j 0]) (cap := []) rfl (yE ⟨(am 2 dc), trivial⟩) Tryz.call15 (zbm  M al (laidL_good.ids) (laidL_good.srt) ((Nat.le_trans ZE om))) ?_)))
 rintro g w55 ⟨_, rfl, O⟩
 have an := O.r0
 have hr57s : _ * 96 ≤ _ := an.2
 exact fun t x E => ⟨(Exists.intro g (And.intro x O)), trivial⟩
 refine ob1 1 fun vals _ ao ap => ?_
 obtain ⟨g, m, aq⟩ := ao
 refine obl rfl ?_
 obtain ⟨G67, ar, A, au, av⟩ := aq.lend
 have F := RowE.rd ar
 have hrd73s : _ * 96 ≤ _ := F.small
 refine (zB (f := 26) (vals := [.agg (d.cells dd0 dd1).toArray, g]) (cap := []) rfl (yE ⟨(ap 1 dc), m, trivial⟩) Tryz.call26 (D_All (d := d) (l := (yR n l)) (vl := g) (RdS.base (RdS.base hdd0 z) A) (RdS.base (RdS.base hdd1 z) A) od F (RdS.base (RdS.base hKN z) A) au (hd) ((Nat.le_trans ZE om))) ?_)
 rintro _ w75 ⟨c, rfl, aw⟩
 have ax := av _ _ aw
 exact fun t x E => ⟨(Exists.intro g (Exists.intro c (And.intro ((E 3 dc).trans m) (And.intro x ax)))), trivial⟩
 refine ob1 2 fun _ _ X _ => ?_
 obtain ⟨g, c, m, u, hS126⟩ := X
 refine obl rfl (zR (v := Ix c 0) u (fun t x E => ⟨rfl, ?_⟩))
 intro b74q B
 rw [E 4 (by decide)] at B; cases u.symm.trans B
 exact x
 intro vals w127 Y H
 obtain ⟨g, c, m, u, Z⟩ := Y
 have ay := H 5 dc
 have az : vals 6 = (Ix c 0 : Value) := H 6 dc c u
 refine zT (kv := [(1, Iw n), (2, vl), (3, Ix b2 0), (6, Ix j 0), (7, Ix c 0), (8, Ix j 0), (9, Iw k), (14, Iw k), (15, vl), (16, Iw l.length), (17, .bool false)]) ⟨rfl, rfl, rfl, (by exact ay), (by exact az), rfl, rfl, rfl, rfl, rfl, rfl, trivial⟩ (fun ρw127 => (zd (zk (zaf Tryz.results10 (show _ = (Ix j 0 : Value) from rfl) (show _ = (Ix c 0 : Value) from rfl) ?_))))
 have aa := ah _ _ Z
 refine ⟨j, c, rfl, (aa.s4_ac)⟩
 have s := tD s
 refine zh rfl (zl (za (zw (R0 fun _ => st (mV (Ix j 0) (st (mV vl (st (mV (Iw k) ?_)))))))))
 have ab : k < l.length := bo
 refine st (zn (k := 10) (i := k) kR kT rfl hl.sl rfl ab ?_)
 have I : k < l.length := bo
 obtain ⟨P, p, K⟩ := hl.evD I
 have hsm138 : ((l.getD k default).deps).length * 8 ≤ 140737488355328 := p.small
 have Q := q.cells P (hl.foot (ne_of_lt I))
 refine st (zf (k := 10) mT kT rfl rfl Q (st (cL Tryz.call14 (zbb (e := (l.getD k default)) p K q ((Nat.le_trans Qv om)) (laidL_good.len)) ?_)))
 rintro _ w142 ⟨ac, rfl, R, J⟩
 refine zd (R0 fun _ => st (mV (Iw k) ?_))
 have ad : InR ((k + 1 : Nat) : Int) := bo
 refine st (zV (r := ((k + 1 : Nat) : Int)) (k := .i64) (a := ((k : Nat) : Int)) (b := 1) rfl rfl (by rw [show (((k : Nat) : Int) + 1 : Int) = ((k + 1 : Nat) : Int) from bo]; exact zJ ad) (st (aS (Iw (k + 1)) (zd ?_))))
 have ae : (yR n (l.take (k + 1))) = ac := (by rw [R]; exact (Qm (by omega)).symm)
 rw [← ae] at J
 exact ⟨_, by omega, k + 1, _, rfl, sSf, by omega, J⟩

end Go.Proofs.YtbbabhaalmkbkaaGreatDoor
