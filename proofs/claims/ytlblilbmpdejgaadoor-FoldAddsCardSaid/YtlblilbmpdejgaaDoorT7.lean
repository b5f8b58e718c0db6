import Derived.Test.YtlblilbmpdejgaaDoorT6
set_option linter.unusedSimpArgs false
set_option linter.unusedVariables false
set_option linter.unusedSectionVars false
set_option linter.deprecated false
/- Steps of the proofs of this seat: part F4. -/
set_option maxRecDepth 8000
set_option maxHeartbeats 4000000
namespace Go.Proofs.YtlblilbmpdejgaaDoor
open Go.Proofs Go.RowKit

theorem Ko {P : Program} {n : Nat} {c : Code} {Q : ZV} {σ : Env} {w : World} (J : Env → World → Prop) (h : WP P n c (fun e σ w => e = .normal ∧ J σ w) σ w) (hq : ∀ σ w, J σ w → Q .normal σ w) : WP P n c Q σ w := fun a hs =>
  wp_mono (h a hs) (by rintro e a' w' ⟨σ'', hs'', rfl, hj⟩; exact ⟨σ'', hs'', hq _ _ hj⟩)
abbrev RwV (v : Value) (l : List Ev) : HP := RowE (α := Ev) own 59 v l
abbrev RwN (v : Value) (l : List Ent) : HP := RowE (α := Ent) own 62 v l
abbrev RwT (v : Value) (l : List Typ) : HP := RowE (α := Typ) own 33 v l
abbrev RwP (v : Value) (l : List Prj) : HP := RowE (α := Prj) own 107 v l
abbrev RwI (v : Value) (l : List Int) : HP := RowE (α := Int) own 3 v l
abbrev RwC (v : Value) (l : List Cel) : HP := RowE (α := Cel) own 42 v l
abbrev Ms1 (m : Nat) (d : Dcl) (M : List Ent) (k : Int × Int) (vc : Value) : HP := xV yR E1 XI m (zp d M) k (.agg #[.int .i64 ((zZ k M : Nat) : Int), vc])
abbrev Md1 (m : Nat) (M : List Ent) (e : Ev) (v : Value) : HP := xV xd E2 (.slice none 0 0) m (yu M) (e.typ, e.agg, e.field) v
abbrev BkP (b : Nat) (e : Ev) : HP := Blk b #[.int .i64 e.typ, .int .i64 e.agg, .int .i64 e.field] 133
abbrev BkT (b : Nat) (d : Dcl) (e : Ev) (W : World) (v : Value) : HP := Blk b ((d.types.getD e.typ.toNat default).cells (zi W (sb v) (so v + e.typ.toNat * 1 + 0))).toArray 33
abbrev BkV (b : Nat) (vt vp ve : Value) (m4 m5 : Nat) : HP := Blk b #[vt, vp, ve, .map (some m4), .map (some m5)] 111
abbrev BkS (b : Nat) (M : List Ent) (k : Int × Int) (v : Value) : HP := Blk b #[.int .i64 ((zZ k M : Nat) : Int), v] 68
abbrev clL (d : Dcl) (M : List Ent) (e : Ev) : List Cel := zW d (e.typ, e.agg) M
theorem Zx {P : Program} {σ : Env} {w : World} {fn : Func} {a u : Tmp} {t : TypeId} {R : Value → World → Prop} {b k : Nat} {cs : List Value} {v' : Value} (hr : fn.results = #[.tmp u, .cell a t]) (hA : ∀ w, (isAgg t).run P w = .ok true w) (hS : ∀ w, (sizeOf t).run P w = .ok k w) (hk : cs.length = k)
    (hv : σ a = .pointer (some ⟨b, 0, none⟩)) (hc : CellsAt w b 0 cs) (hu : σ u = v') (h : R (.tuple #[v', .agg cs.toArray]) w) : Xe P fn R .ret σ w := by
  subst hk
  refine ⟨_, fun tmps ht => ?_, h⟩
  have := yO (P := P) (w := w) b 0 cs 0 #[] (fun j hj => by simpa using hc j hj)
  have e : tmps[a]?.getD undef = .pointer (some ⟨b, 0, none⟩) := by rw [← hv, ← ht a]; simp
  have e2 : tmps[u]?.getD undef = v' := by rw [← hu, ← ht u]; simp
  simp [results, hr, e, e2, asAddr, loadVar, hA, hS, loadCells, this, go_sem]
theorem VJ {p : Ev → Bool} : ∀ {l : List Ev} {k : Nat}, k < l.length → (∀ i, i < k → p (l.getD i default) = false) → p (l.getD k default) = true → l.find? p = some (l.getD k default)
  | [], k, hk, _, _ => absurd hk (Nat.not_lt_zero k)
  | x :: l, 0, _, _, h1 => by have h1 : p x = true := h1; rw [List.find?_cons, h1]; rfl
  | x :: l, k + 1, hk, h0, h1 => by
    have hx : p x = false := h0 0 (Nat.succ_pos _)
    rw [List.find?_cons, hx]
    exact VJ (by simpa using hk) (fun i hi => h0 (i + 1) (by omega)) h1
theorem Kc {p : Ev → Bool} {l : List Ev} (h : ∀ i, i < l.length → p (l.getD i default) = false) : l.find? p = none := by
  rw [List.find?_eq_none]
  intro x hx
  obtain ⟨i, hi, rfl⟩ := List.getElem_of_mem hx
  have := h i hi
  rw [zm _ hi] at this
  rw [this]; decide
theorem UG (k : Int × Int × Int) (L : List Ent) : (zY k L).length ≤ L.length := by unfold zY; rw [List.length_map]; exact List.length_filter_le _ _
section
variable {d : Dcl} {M : List Ent} {e : Ev}
theorem YP (h : ¬ yJ d e.typ e.field e.op e.arg = 0) : zK d M e = (true, 0, 0) := by unfold zK; rw [if_pos h]
theorem KI {k : Nat} (h : yJ d e.typ e.field e.op e.arg = 0) (hk : k < (zY (e.typ, e.agg, e.field) M).length) (h0 : ∀ i, i < k → yG ((d.types.getD e.typ.toNat default).fields.getD e.field.toNat default) ((zY (e.typ, e.agg, e.field) M).getD i default) e = false)
    (h1 : yG ((d.types.getD e.typ.toNat default).fields.getD e.field.toNat default) ((zY (e.typ, e.agg, e.field) M).getD k default) e = true) : zK d M e = (true, ((zY (e.typ, e.agg, e.field) M).getD k default).origin, ((zY (e.typ, e.agg, e.field) M).getD k default).seq) := by
  unfold zK Zj
  rw [if_neg (by simpa using h), VJ (p := fun x => yG ((d.types.getD e.typ.toNat default).fields.getD e.field.toNat default) x e) hk h0 h1]
theorem UB (h : yJ d e.typ e.field e.op e.arg = 0) (h0 : ∀ i, i < (zY (e.typ, e.agg, e.field) M).length → yG ((d.types.getD e.typ.toNat default).fields.getD e.field.toNat default) ((zY (e.typ, e.agg, e.field) M).getD i default) e = false) :
    zK d M e = if ¬ yU (d.types.getD e.typ.toNat default) (zW d (e.typ, e.agg) M) e.field e.op e.arg = 0 then (true, 0, 0) else (false, 0, 0) := by
  unfold zK Zj
  rw [if_neg (by simpa using h), Kc (p := fun x => yG ((d.types.getD e.typ.toNat default).fields.getD e.field.toNat default) x e) h0]
end
theorem Wu {G : Nat → Prop} {W w : World} {As : List HP} {d : Dcl} {M : List Ent} {v2 vc : Value} {k : Int × Int} (h : Sep G W (RowE (α := Cel) own 42 v2 (zW d k M) :: As) w) (hv : v2 = vc ∨ zZ k M = 0) : Sep G W (Yp E1 (.agg #[.int .i64 ((zZ k M : Nat) : Int), vc]) (zp d M k) :: As) w := by
  refine h.impl (i := 0) rfl (fun f hA => ?_)
  unfold zp
  by_cases he : zZ k M = 0
  · rw [if_pos he]; exact trivial
  · rw [if_neg he]
    obtain rfl := hv.resolve_right he
    exact ⟨v2, rfl, hA⟩
theorem WL {d : Dcl} {M : List Ent} {k : Int × Int} (h : (zp d M k).isSome = false) : zZ k M = 0 := by
  unfold zp at h
  by_cases h8 : zZ k M = 0
  · exact h8
  · rw [if_neg h8] at h; cases h
theorem WT {d : Dcl} {M : List Ent} {k : Int × Int} (h : (zp d M k).isSome = true) : ¬ zZ k M = 0 := by
  intro h8
  unfold zp at h
  rw [if_pos h8] at h; cases h
theorem Qr {t : Typ} {c : List Cel} {f : Int} (h : Right t c) (h0 : 0 ≤ f) (h1 : f < t.fields.length) : (yj c f).set.length ≤ 1000 := by
  have := h.most f.toNat (by have := h.len; omega)
  exact Nat.le_trans this (by omega)
theorem VP {d : Option Tmp} {ty : TypeId} {pos : String} {af : Array Edge} {g : Option (Nat × Bool)} {σ : Env} {w : World} {K : Value → World → Prop} {x : Operand} {b o : Nat} (hx : ev σ x = .pointer (some ⟨b, o, none⟩)) (h : K (.pointer (some ⟨b, o + 0, none⟩)) w) : opV Tryd.prog ⟨d, .fieldAddr 111 x 0, ty, pos, af, g⟩ σ w K := zA Tryd.underlying111 rfl rfl (fun w => ⟨1, Tryd.sizeOf25 w⟩) hx h
theorem xa {d : Option Tmp} {ty : TypeId} {pos : String} {af : Array Edge} {g : Option (Nat × Bool)} {σ : Env} {w : World} {K : Value → World → Prop} {x : Operand} {b o : Nat} (hx : ev σ x = .pointer (some ⟨b, o, none⟩)) (h : K (.pointer (some ⟨b, o + 4, none⟩)) w) : opV Tryd.prog ⟨d, .fieldAddr 59 x 3, ty, pos, af, g⟩ σ w K := zA Tryd.underlying59 rfl rfl (fun w => ⟨0, Tryd.sizeOf3 w⟩) hx h
theorem xj {d : Option Tmp} {ty : TypeId} {pos : String} {af : Array Edge} {g : Option (Nat × Bool)} {σ : Env} {w : World} {K : Value → World → Prop} {x : Operand} {b o : Nat} (hx : ev σ x = .pointer (some ⟨b, o, none⟩)) (h : K (.pointer (some ⟨b, o + 6, none⟩)) w) : opV Tryd.prog ⟨d, .fieldAddr 59 x 5, ty, pos, af, g⟩ σ w K := zA Tryd.underlying59 rfl rfl (fun w => ⟨0, Tryd.sizeOf3 w⟩) hx h
theorem xZ {d : Option Tmp} {ty : TypeId} {pos : String} {af : Array Edge} {g : Option (Nat × Bool)} {σ : Env} {w : World} {K : Value → World → Prop} {x : Operand} {b o : Nat} (hx : ev σ x = .pointer (some ⟨b, o, none⟩)) (h : K (.pointer (some ⟨b, o + 5, none⟩)) w) : opV Tryd.prog ⟨d, .fieldAddr 59 x 4, ty, pos, af, g⟩ σ w K := zA Tryd.underlying59 rfl rfl (fun w => ⟨0, Tryd.sizeOf3 w⟩) hx h
theorem Uc {d : Option Tmp} {ty : TypeId} {pos : String} {af : Array Edge} {g : Option (Nat × Bool)} {σ : Env} {w : World} {K : Value → World → Prop} {x : Operand} {b o : Nat} (hx : ev σ x = .pointer (some ⟨b, o, none⟩)) (h : K (.pointer (some ⟨b, o + 4, none⟩)) w) : opV Tryd.prog ⟨d, .fieldAddr 111 x 3, ty, pos, af, g⟩ σ w K := zA Tryd.underlying111 rfl rfl (fun w => ⟨0, Tryd.sizeOf109 w⟩) hx h
theorem Wi {d : Option Tmp} {ty : TypeId} {pos : String} {af : Array Edge} {g : Option (Nat × Bool)} {σ : Env} {w : World} {K : Value → World → Prop} {x : Operand} {b o : Nat} (hx : ev σ x = .pointer (some ⟨b, o, none⟩)) (h : K (.pointer (some ⟨b, o + 3, none⟩)) w) : opV Tryd.prog ⟨d, .fieldAddr 111 x 2, ty, pos, af, g⟩ σ w K := zA Tryd.underlying111 rfl rfl (fun w => ⟨0, Tryd.sizeOf108 w⟩) hx h
theorem VX {d : Option Tmp} {ty : TypeId} {pos : String} {af : Array Edge} {g : Option (Nat × Bool)} {σ : Env} {w : World} {K : Value → World → Prop} {x : Operand} {b o : Nat} (hx : ev σ x = .pointer (some ⟨b, o, none⟩)) (h : K (.pointer (some ⟨b, o + 0, none⟩)) w) : opV Tryd.prog ⟨d, .fieldAddr 133 x 0, ty, pos, af, g⟩ σ w K := zA Tryd.underlying133 rfl rfl (fun w => ⟨1, Tryd.sizeOf120 w⟩) hx h
theorem ZT {d : Option Tmp} {ty : TypeId} {pos : String} {af : Array Edge} {g : Option (Nat × Bool)} {σ : Env} {w : World} {K : Value → World → Prop} {x : Operand} {b o : Nat} (hx : ev σ x = .pointer (some ⟨b, o, none⟩)) (h : K (.pointer (some ⟨b, o + 0, none⟩)) w) : opV Tryd.prog ⟨d, .fieldAddr 68 x 0, ty, pos, af, g⟩ σ w K := zA Tryd.underlying68 rfl rfl (fun w => ⟨0, Tryd.sizeOf3 w⟩) hx h
theorem el47 : Elem Tryd.prog 47 59 10 96 := ⟨Tryd.underlying47, _, _, rfl, rfl, rfl, rfl, rfl⟩
set_option maxHeartbeats 8000000 in
theorem D_try {G : Nat → Prop} {W w : World} {Rs : List HP} {b : Nat} {d : Dcl} {L : List Ent} {M : List Ent} {e : Ev} {ve0 : Value} (oe : e.Ok) (hKN : RdS W G (.slice (some ⟨0, 0, none⟩) 6 6) kindsL) (hS0 : Sep G W ((ViewO b d L M) :: (RowE (α := Int) own 3 ve0 e.deps) :: Rs) w) (hd : DclOk d) (hinv : Inv d M) (hml : M.length ≤ 1000000) : Ret Tryd.prog 59 [.pointer (some ⟨b, 0, none⟩), .agg (e.cells ve0).toArray] w (fun r w' => r = (.tuple #[.bool ((zK d M e).1), .agg #[.int .i64 ((zK d M e).2.1), .int .i64 ((zK d M e).2.2)]] : Value) ∧ (InR (zK d M e).2.1 ∧ InR (zK d M e).2.2) ∧ Sep G W ((ViewO b d L (M ++ [zS d M e])) :: Rs) w') := by
 have hKNs : _ * 8 ≤ _ := hKN.small
 refine zr (args := [Ix b 0, .agg (e.cells ve0).toArray]) Tryd.func59 rfl rfl ?_
 obtain ⟨g, F, Q, N, S, kR⟩ := ViewO.open hS0
 have ba : Sep G W ((BkV b g F Q N S) :: (RwT g d.types) :: (RwP F d.projs) :: (RwN Q L) :: (yw yR E1 N (zp d M)) :: (yw xd E2 S (yu M)) :: (RwI ve0 e.deps) :: Rs) w := kR
 have kS := ba.row (i := 1) rfl
 have hr7s : _ * 24 ≤ _ := kS.2
 have kT := ba.row (i := 2) rfl
 have hr8s : _ * 40 ≤ _ := kT.2
 have kU := ba.row (i := 3) rfl
 have hr9s : _ * 120 ≤ _ := kU.2
 have kk := ba.row (i := 6) rfl
 have hr10s : _ * 8 ≤ _ := kk.2
 refine zd (za kr (fun _ => (st (zT (v := .agg (e.cells ve0).toArray) rfl ?_))))
 intro w13 q kl
 have km := ba.new kl
 refine st (ze (v := .bool false) rfl (st (zB Tryd.zeroValue57 ?_)))
 intro w17 y kn
 have ko := km.new kn
 refine zf (zd (zd ?_))
 refine WD4 ((fun TT O ab ad => WF [fun vals C => Sep G W (O :: ab :: ad :: (RwT g d.types) :: (RwP F d.projs) :: TT) C, fun vals C => (vals 12 = (Iv (yJ d e.typ e.field e.op e.arg) : Value)) ∧ Sep G W ((RwT g d.types) :: (RwP F d.projs) :: O :: ab :: ad :: TT) C]) ((RwN Q L) :: (yw yR E1 N (zp d M)) :: (yw xd E2 S (yu M)) :: (RwI ve0 e.deps) :: Rs) (Blk y #[Iv 0, Iv 0] 57) (Blk q (e.cells ve0).toArray 59) (BkV b g F Q N S)) (AF [Vl 0 (Ix b 0), Vl 1 (Ix b 0), Vl 2 (Ix b 0), Vl 3 (.agg (d.cells g F).toArray), Vl 4 (Ix q 4), Vl 5 (Iv (e.typ)), Vl 6 (Ix q 6), Vl 7 (Iv (e.field)), Vl 8 (Ix q 7), Vl 9 (Iv (e.op)), Vl 10 (Ix q 8), Vl 11 (Iv (e.arg)), fun _ => True, Vl 13 (.bool (!decide ((yJ d e.typ e.field e.op e.arg) = 0)))]) [[], [0], [0, 1], [0, 1, 2], [], [4], [], [6], [], [8], [], [10], (rg 12), (rg 13)] [12] [(0, 0), (0, 0), (0, 0), (0, 0), (0, 0), (0, 0), (0, 0), (0, 0), (0, 0), (0, 0), (0, 0), (0, 0), (0, 0), (1, 1)] ko ⟨?_, ?_, ?_, ?_, ?_, ?_, ?_, ?_, ?_, ?_, ?_, ?_, ?_, ?_, trivial⟩ ?_
 exact fun _ _ _ _ _ _ _ => obl rfl (zb (v := Ix b 0) rfl dR)
 exact fun _ _ _ _ _ _ ha => obl rfl (zH (b := b) (o := 0) (ha 0 dc) dR)
 exact fun _ _ _ _ _ _ hb => obl rfl (VP (hb 1 dc) dR)
 refine ob1 0 fun _ _ (hc : Sep _ _ _ _) he => (obl rfl ?_)
 have ok172 : Dcl.Ok d := ⟨⟩
 exact zl (k := 2) (cs := [g, F]) Tryd.isAgg25 Tryd.sizeOf25 rfl (he 2 dc) (CellsAt.sub (CellsAt.all (hc.blk (i := 2) rfl)) 0 (cs2 := [g, F]) rfl) dR
 exact fun _ _ _ _ _ _ _ => obl rfl (xa rfl dR)
 exact ob1 0 fun _ _ (hf : Sep _ _ _ _) hg => obl rfl (zg (v := Iv (e.typ)) Tryd.isAgg3 (hg 4 dc) (zh (hf.blk (i := 1) rfl) rfl) dR)
 exact fun _ _ _ _ _ _ _ => obl rfl (xj rfl dR)
 exact ob1 0 fun _ _ (hh : Sep _ _ _ _) hj => obl rfl (zg (v := Iv (e.field)) Tryd.isAgg3 (hj 6 dc) (zh (hh.blk (i := 1) rfl) rfl) dR)
 exact fun _ _ _ _ _ _ _ => obl rfl (xo rfl dR)
 exact ob1 0 fun _ _ (hk : Sep _ _ _ _) hl => obl rfl (zg (v := Iv (e.op)) Tryd.isAgg3 (hl 8 dc) (zh (hk.blk (i := 1) rfl) rfl) dR)
 exact fun _ _ _ _ _ _ _ => obl rfl (xe rfl dR)
 exact ob1 0 fun _ _ (hm : Sep _ _ _ _) hn => obl rfl (zg (v := Iv (e.arg)) Tryd.isAgg3 (hn 10 dc) (zh (hm.blk (i := 1) rfl) rfl) dR)
 refine ob1 0 fun vals _ (ho : Sep _ _ _ _) au => (obl rfl ?_)
 have hp := ho.mv3
 obtain ⟨G117, hq, hr, hs, ht⟩ := hp.lend
 have bX := RowE.rd hq
 have hrd123s : _ * 24 ≤ _ := bX.small
 have hu := hs.mv3
 obtain ⟨G125, hw, di, hx, hy⟩ := hu.lend
 have bY := RowE.rd hw
 have hrd131s : _ * 40 ≤ _ := bY.small
 refine (zu (f := 15) (vals := [.agg (d.cells g F).toArray, Iv (e.typ), Iv (e.field), Iv (e.op), Iv (e.arg)]) (cap := []) rfl (yP ⟨(au 3 dc), (au 5 dc), (au 7 dc), (au 9 dc), (au 11 dc), trivial⟩) Tryd.call15 (KS (d := d) (ty := e.typ) (f := e.field) (op := e.op) (arg := e.arg) (RdS.base bX di) bY (⟨⟩ : Dcl.Ok d) oe.typ oe.field oe.op oe.arg (RdS.base (RdS.base hKN hr) di) hx) ?_)
 rintro _ w132 ⟨rfl, hz⟩
 have hA := hy _ _ hz
 have hB := ht _ _ hA
 exact fun D U H => ⟨(And.intro U hB), trivial⟩
 refine ob1 1 fun _ _ hC _ => ?_
 obtain ⟨dj, hS235⟩ := hC
 exact obl rfl (yq (k := .i64) (a := yJ d e.typ e.field e.op e.arg) (b := 0) dj rfl dR)
 intro vals p hD hE
 obtain ⟨dj, dk⟩ := hD
 have kp := hE 13 dc
 refine yf (kv := [(0, Ix b 0), (1, .agg (e.cells ve0).toArray), (3, Ix q 0), (4, .bool false), (5, Ix y 0), (25, .bool (!decide ((yJ d e.typ e.field e.op e.arg) = 0)))]) ⟨rfl, rfl, rfl, rfl, rfl, (by exact kp), trivial⟩ (fun ρw236 => (zf ?_))
 cases ai : !decide ((yJ d e.typ e.field e.op e.arg) = 0)
 have ai := zC ai
 have hfo := Yc ai
 have hfz := ai
 have dW := hfo.1; have dX := hfo.2.1; have hft := hfo.2.2
 have hfl := hft.lo; have hfh := hft.hi
 refine zn rfl (zv (zd ?_))
 have dl := dk.s9_acdeghibf
 generalize bF : ((RwP F d.projs) :: (RwN Q L) :: Rs) = aj at dl
 obtain ⟨K, hF, hB248, hG, bG⟩ := dl.lend
 have P := RowE.rd hF
 have hrd251s : _ * 24 ≤ _ := P.small
 refine WD6 ((fun TT O => WF [fun vals C => Sep K p (O :: TT) C, fun vals C => ∃ (m : Nat), (vals 17 = (Ix m 0 : Value)) ∧ Sep K p ((Blk m #[(Iz)] 33) :: O :: TT) C, fun vals C => ∃ (j : Nat), (vals 18 = (Ix j 0 : Value)) ∧ Sep K p ((Blk j #[Iv 0, Iv 0, Iv 0] 133) :: O :: TT) C, fun vals C => ∃ (m : Nat) (j : Nat), (vals 17 = (Ix m 0 : Value)) ∧ (vals 18 = (Ix j 0 : Value)) ∧ Sep K p ((Blk j #[Iv 0, Iv 0, Iv 0] 133) :: (Blk m #[(Iz)] 33) :: O :: TT) C, fun _ _ => True, fun _ _ => True, fun _ _ => True, fun vals C => ∃ (m : Nat) (j : Nat), (vals 17 = (Ix m 0 : Value)) ∧ (vals 18 = (Ix j 0 : Value)) ∧ Sep K p ((Blk j #[Iv 0, Iv 0, Iv 0] 133) :: (BkT m d e p g) :: O :: TT) C, fun _ _ => True, fun _ _ => True, fun _ _ => True, fun _ _ => True, fun _ _ => True, fun _ _ => True, fun _ _ => True, fun vals C => ∃ (m : Nat) (j : Nat), (vals 17 = (Ix m 0 : Value)) ∧ (vals 18 = (Ix j 0 : Value)) ∧ Sep K p ((BkP j e) :: (BkT m d e p g) :: O :: TT) C]) ((Blk q (e.cells ve0).toArray 59) :: (BkV b g F Q N S) :: (yw yR E1 N (zp d M)) :: (yw xd E2 S (yu M)) :: (RwI ve0 e.deps) :: aj) (Blk y #[Iv 0, Iv 0] 57)) (AF [Vl 0 (Ix b 0), Vl 1 (Ix b 0), Vl 2 (Ix b 0), Vl 3 (Ix b 0), Vl 4 (g), Vl 5 (Ix q 4), Vl 6 (Iv (e.typ)), Vl 7 (Ix (sb g) (so g + e.typ.toNat * 1)), Vl 8 (.agg ((d.types.getD e.typ.toNat default).cells (zi p (sb g) (so g + e.typ.toNat * 1 + 0))).toArray), Vl 9 (Ix q 4), Vl 10 (Iv (e.typ)), Vl 11 (Ix q 5), Vl 12 (Iv (e.agg)), Vl 13 (.agg #[Iv (e.typ), Iv (e.agg)]), Vl 14 (Ix q 6), Vl 15 (Iv (e.field)), Vl 16 (.agg #[Iv (e.typ), Iv (e.agg), Iv (e.field)]), fun _ => True, fun _ => True, fun _ => True, fun _ => True]) [[], [0], [0, 1], [0, 1, 2], (rg 4), [], [5], (rg 7), (rg 8), [], [9], [], [11], [9, 10, 11, 12], [], [14], [9, 10, 11, 12, 13, 14, 15], [], [], [0, 1, 2, 3, 4, 5, 6, 7, 8, 17, 18], (rg 20)] [17, 18, 19, 20] [(rg 4), (rg 4), (rg 4), (rg 4), (rg 4), (rg 4), (rg 4), (rg 4), (rg 4), [0, 1, 2, 3, 7], [0, 1, 2, 3, 7], [0, 1, 2, 3, 7], [0, 1, 2, 3, 7], [0, 1, 2, 3, 7], [0, 1, 2, 3, 7], [0, 1, 2, 3, 7], [0, 1, 2, 3, 7], [0, 2], [0, 1], [3], [7]] hG ⟨?_, ?_, ?_, ?_, ?_, ?_, ?_, ?_, ?_, ?_, ?_, ?_, ?_, ?_, ?_, ?_, ?_, ?_, ?_, ?_, ?_, trivial⟩ ?_
 exact fun _ _ _ _ _ _ => obl rfl (zb (v := Ix b 0) rfl dR)
 exact fun _ _ _ _ _ hH => obl rfl (zH (b := b) (o := 0) (hH 0 dc) dR)
 exact fun _ _ _ _ _ hI => obl rfl (VP (hI 1 dc) dR)
 exact fun _ _ _ _ _ hJ => obl rfl (yo (hJ 2 dc) dR)
 intro kq vals w439 hK aJ aK
 have bZ : kq ∈ [0, 1, 2, 3] := hK
 simp only [List.mem_cons, List.not_mem_nil, or_false] at bZ
 rcases bZ with rfl | rfl | rfl | rfl
 have hL : Sep _ _ _ _ := aJ
 exact obl rfl (zg (v := g) Tryd.isAgg22 (aK 3 dc) (zh (hL.blk (i := 2) rfl) rfl) dR)
 obtain ⟨m, z, hM⟩ := aJ
 exact obl rfl (zg (v := g) Tryd.isAgg22 (aK 3 dc) (zh (hM.blk (i := 3) rfl) rfl) dR)
 obtain ⟨j, A, hO⟩ := aJ
 exact obl rfl (zg (v := g) Tryd.isAgg22 (aK 3 dc) (zh (hO.blk (i := 3) rfl) rfl) dR)
 obtain ⟨m, j, z, A, hP⟩ := aJ
 exact obl rfl (zg (v := g) Tryd.isAgg22 (aK 3 dc) (zh (hP.blk (i := 4) rfl) rfl) dR)
 exact fun _ _ _ _ _ _ => obl rfl (xa rfl dR)
 intro ks vals w457 hQ aL aM
 have ca : ks ∈ [0, 1, 2, 3] := hQ
 simp only [List.mem_cons, List.not_mem_nil, or_false] at ca
 rcases ca with rfl | rfl | rfl | rfl
 have hR : Sep _ _ _ _ := aL
 exact obl rfl (zg (v := Iv (e.typ)) Tryd.isAgg3 (aM 5 dc) (zh (hR.blk (i := 1) rfl) rfl) dR)
 obtain ⟨m, z, hS⟩ := aL
 exact obl rfl (zg (v := Iv (e.typ)) Tryd.isAgg3 (aM 5 dc) (zh (hS.blk (i := 2) rfl) rfl) dR)
 obtain ⟨j, A, hU⟩ := aL
 exact obl rfl (zg (v := Iv (e.typ)) Tryd.isAgg3 (aM 5 dc) (zh (hU.blk (i := 2) rfl) rfl) dR)
 obtain ⟨m, j, z, A, hV⟩ := aL
 exact obl rfl (zg (v := Iv (e.typ)) Tryd.isAgg3 (aM 5 dc) (zh (hV.blk (i := 3) rfl) rfl) dR)
 intro kt vals w470 hW aN ae
 have cb : kt ∈ [0, 1, 2, 3] := hW
 simp only [List.mem_cons, List.not_mem_nil, or_false] at cb
 rcases cb with rfl | rfl | rfl | rfl
 have hS474 : Sep _ _ _ _ := aN
 refine obl rfl ?_
 have hi477 : e.typ.toNat < d.types.length := bo
 exact zz (k := 1) (i := e.typ) Tryd.underlying22 Tryd.sizeOf33 (ae 4 dc) P.sl (ae 6 dc) ⟨by omega, by omega⟩ dR
 obtain ⟨m, z, hS478⟩ := aN
 refine obl rfl ?_
 have hi481 : e.typ.toNat < d.types.length := bo
 exact zz (k := 1) (i := e.typ) Tryd.underlying22 Tryd.sizeOf33 (ae 4 dc) P.sl (ae 6 dc) ⟨by omega, by omega⟩ dR
 obtain ⟨j, A, hS482⟩ := aN
 refine obl rfl ?_
 have hi485 : e.typ.toNat < d.types.length := bo
 exact zz (k := 1) (i := e.typ) Tryd.underlying22 Tryd.sizeOf33 (ae 4 dc) P.sl (ae 6 dc) ⟨by omega, by omega⟩ dR
 obtain ⟨m, j, z, A, hS486⟩ := aN
 refine obl rfl ?_
 have hi489 : e.typ.toNat < d.types.length := bo
 exact zz (k := 1) (i := e.typ) Tryd.underlying22 Tryd.sizeOf33 (ae 4 dc) P.sl (ae 6 dc) ⟨by omega, by omega⟩ dR
 intro ku vals w491 hX aO aP
 have cc : ku ∈ [0, 1, 2, 3] := hX
 simp only [List.mem_cons, List.not_mem_nil, or_false] at cc
 rcases cc with rfl | rfl | rfl | rfl
 have hY : Sep _ _ _ _ := aO
 refine obl rfl ?_
 have bH : e.typ.toNat < d.types.length := bo
 obtain ⟨cd, bb, dK⟩ := P.typ bH
 rw [← zm default bH] at cd bb dK
 have hsm499 : ((d.types.getD e.typ.toNat default).fields).length * 48 ≤ 140737488355328 := bb.small
 have dY := hY.cells cd (P.foot (ne_of_lt bH))
 exact zl (k := 1) Tryd.isAgg33 Tryd.sizeOf33 rfl (aP 7 dc) dY dR
 obtain ⟨m, z, hZ⟩ := aO
 refine obl rfl ?_
 have bI : e.typ.toNat < d.types.length := bo
 obtain ⟨ce, bc, dL⟩ := P.typ bI
 rw [← zm default bI] at ce bc dL
 have hsm505 : ((d.types.getD e.typ.toNat default).fields).length * 48 ≤ 140737488355328 := bc.small
 have dZ := hZ.cells ce (P.foot (ne_of_lt bI))
 exact zl (k := 1) Tryd.isAgg33 Tryd.sizeOf33 rfl (aP 7 dc) dZ dR
 obtain ⟨j, A, ia⟩ := aO
 refine obl rfl ?_
 have bJ : e.typ.toNat < d.types.length := bo
 obtain ⟨cf, bd, dM⟩ := P.typ bJ
 rw [← zm default bJ] at cf bd dM
 have hsm511 : ((d.types.getD e.typ.toNat default).fields).length * 48 ≤ 140737488355328 := bd.small
 have ea := ia.cells cf (P.foot (ne_of_lt bJ))
 exact zl (k := 1) Tryd.isAgg33 Tryd.sizeOf33 rfl (aP 7 dc) ea dR
 obtain ⟨m, j, z, A, ib⟩ := aO
 refine obl rfl ?_
 have bK : e.typ.toNat < d.types.length := bo
 obtain ⟨cg, be, dN⟩ := P.typ bK
 rw [← zm default bK] at cg be dN
 have hsm517 : ((d.types.getD e.typ.toNat default).fields).length * 48 ≤ 140737488355328 := be.small
 have eb := ib.cells cg (P.foot (ne_of_lt bK))
 exact zl (k := 1) Tryd.isAgg33 Tryd.sizeOf33 rfl (aP 7 dc) eb dR
 exact fun _ _ _ _ _ _ => obl rfl (xa rfl dR)
 intro kw vals w525 ic av aw
 have ch : kw ∈ [0, 1, 2, 3, 7] := ic
 simp only [List.mem_cons, List.not_mem_nil, or_false] at ch
 rcases ch with rfl | rfl | rfl | rfl | rfl
 have id : Sep _ _ _ _ := av
 exact obl rfl (zg (v := Iv (e.typ)) Tryd.isAgg3 (aw 9 dc) (zh (id.blk (i := 1) rfl) rfl) dR)
 obtain ⟨m, z, ie⟩ := av
 exact obl rfl (zg (v := Iv (e.typ)) Tryd.isAgg3 (aw 9 dc) (zh (ie.blk (i := 2) rfl) rfl) dR)
 obtain ⟨j, A, ig⟩ := av
 exact obl rfl (zg (v := Iv (e.typ)) Tryd.isAgg3 (aw 9 dc) (zh (ig.blk (i := 2) rfl) rfl) dR)
 obtain ⟨m, j, z, A, ih⟩ := av
 exact obl rfl (zg (v := Iv (e.typ)) Tryd.isAgg3 (aw 9 dc) (zh (ih.blk (i := 3) rfl) rfl) dR)
 obtain ⟨m, j, z, A, ii⟩ := av
 exact obl rfl (zg (v := Iv (e.typ)) Tryd.isAgg3 (aw 9 dc) (zh (ii.blk (i := 3) rfl) rfl) dR)
 exact fun _ _ _ _ _ _ => obl rfl (xZ rfl dR)
 intro kz vals w545 ij ax ay
 have ci : kz ∈ [0, 1, 2, 3, 7] := ij
 simp only [List.mem_cons, List.not_mem_nil, or_false] at ci
 rcases ci with rfl | rfl | rfl | rfl | rfl
 have ik : Sep _ _ _ _ := ax
 exact obl rfl (zg (v := Iv (e.agg)) Tryd.isAgg3 (ay 11 dc) (zh (ik.blk (i := 1) rfl) rfl) dR)
 obtain ⟨m, z, il⟩ := ax
 exact obl rfl (zg (v := Iv (e.agg)) Tryd.isAgg3 (ay 11 dc) (zh (il.blk (i := 2) rfl) rfl) dR)
 obtain ⟨j, A, im⟩ := ax
 exact obl rfl (zg (v := Iv (e.agg)) Tryd.isAgg3 (ay 11 dc) (zh (im.blk (i := 2) rfl) rfl) dR)
 obtain ⟨m, j, z, A, io⟩ := ax
 exact obl rfl (zg (v := Iv (e.agg)) Tryd.isAgg3 (ay 11 dc) (zh (io.blk (i := 3) rfl) rfl) dR)
 obtain ⟨m, j, z, A, ip⟩ := ax
 exact obl rfl (zg (v := Iv (e.agg)) Tryd.isAgg3 (ay 11 dc) (zh (ip.blk (i := 3) rfl) rfl) dR)
 exact fun _ _ _ _ _ dm => obl rfl (zQ (parts' := [(0, Iv (e.typ)), (1, Iv (e.agg))]) (v := .agg #[Iv (e.typ), Iv (e.agg)]) (xF ⟨rfl, (dm 10 (by decide)), rfl, (dm 12 (by decide)), trivial⟩) (by simp [Instr.build, Instr.fill, Ev.cells, go_sem, Mv.cells, Fld.cells, Typ.cells, Prj.cells, Dcl.cells, Cel.cells, AskR.cells, Ask.cells, CelS.cells, Ev.cells, Ent.cells, Sta.cells]) dR)
 exact fun _ _ _ _ _ _ => obl rfl (xj rfl dR)
 intro kA vals w572 iq az aA
 have cj : kA ∈ [0, 1, 2, 3, 7] := iq
 simp only [List.mem_cons, List.not_mem_nil, or_false] at cj
 rcases cj with rfl | rfl | rfl | rfl | rfl
 have ir : Sep _ _ _ _ := az
 exact obl rfl (zg (v := Iv (e.field)) Tryd.isAgg3 (aA 14 dc) (zh (ir.blk (i := 1) rfl) rfl) dR)
 obtain ⟨m, z, it⟩ := az
 exact obl rfl (zg (v := Iv (e.field)) Tryd.isAgg3 (aA 14 dc) (zh (it.blk (i := 2) rfl) rfl) dR)
 obtain ⟨j, A, iu⟩ := az
 exact obl rfl (zg (v := Iv (e.field)) Tryd.isAgg3 (aA 14 dc) (zh (iu.blk (i := 2) rfl) rfl) dR)
 obtain ⟨m, j, z, A, iv⟩ := az
 exact obl rfl (zg (v := Iv (e.field)) Tryd.isAgg3 (aA 14 dc) (zh (iv.blk (i := 3) rfl) rfl) dR)
 obtain ⟨m, j, z, A, iw⟩ := az
 exact obl rfl (zg (v := Iv (e.field)) Tryd.isAgg3 (aA 14 dc) (zh (iw.blk (i := 3) rfl) rfl) dR)
 exact fun _ _ _ _ _ dp => obl rfl (zQ (parts' := [(0, .agg #[Iv (e.typ), Iv (e.agg)]), (1, Iv (e.field))]) (v := .agg #[Iv (e.typ), Iv (e.agg), Iv (e.field)]) (xF ⟨rfl, (dp 13 (by decide)), rfl, (dp 15 (by decide)), trivial⟩) (by simp [Instr.build, Instr.fill, Ev.cells, go_sem, Mv.cells, Fld.cells, Typ.cells, Prj.cells, Dcl.cells, Cel.cells, AskR.cells, Ask.cells, CelS.cells, Ev.cells, Ent.cells, Sta.cells]) dR)
 intro kB vals w594 ix dq hA595
 have ck : kB ∈ [0, 2] := ix
 simp only [List.mem_cons, List.not_mem_nil, or_false] at ck
 rcases ck with rfl | rfl
 have iy : Sep _ _ _ _ := dq
 refine obl rfl ((zB Tryd.zeroValue33 ?_))
 intro w601 m iz
 have iA := iy.new iz
 exact fun D U H => ⟨(Exists.intro m (And.intro U iA)), trivial⟩
 obtain ⟨j, A, iB⟩ := dq
 refine obl rfl ((zB Tryd.zeroValue33 ?_))
 intro w606 m iC
 have iD := iB.new iC
 have iE := iD.mv1
 exact fun D U H => ⟨(Exists.intro m (Exists.intro j (And.intro U (And.intro ((H 18 dc).trans A) iE)))), trivial⟩
 intro kC vals w610 iF dr hA611
 have cl : kC ∈ [0, 1] := iF
 simp only [List.mem_cons, List.not_mem_nil, or_false] at cl
 rcases cl with rfl | rfl
 have iG : Sep _ _ _ _ := dr
 refine obl rfl ((zB Tryd.zeroValue133 ?_))
 intro w617 j iH
 have iI := iG.new iH
 exact fun D U H => ⟨(Exists.intro j (And.intro U iI)), trivial⟩
 obtain ⟨m, z, iJ⟩ := dr
 refine obl rfl ((zB Tryd.zeroValue133 ?_))
 intro w622 j iK
 have iL := iJ.new iK
 exact fun D U H => ⟨(Exists.intro m (Exists.intro j (And.intro ((H 17 dc).trans z) (And.intro U iL)))), trivial⟩
 intro kD vals w625 iM iN iO
 have cm : kD ∈ [3] := iM
 simp only [List.mem_cons, List.not_mem_nil, or_false] at cm
 subst cm
 obtain ⟨m, j, z, A, bL⟩ := iN
 refine obl rfl ?_
 have bM : e.typ.toNat < d.types.length := bo
 obtain ⟨cn, aq, dO⟩ := P.typ bM
 rw [← zm default bM] at cn aq dO
 have hsm635 : ((d.types.getD e.typ.toNat default).fields).length * 48 ≤ 140737488355328 := aq.small
 have hcw636 := bL.cells cn (P.foot (ne_of_lt bM))
 refine (zy (v := .agg ((d.types.getD e.typ.toNat default).cells (zi p (sb g) (so g + e.typ.toNat * 1 + 0))).toArray) (c' := ((d.types.getD e.typ.toNat default).cells (zi p (sb g) (so g + e.typ.toNat * 1 + 0))).toArray) Tryd.sizeOf33 z (iO 8 dc) (bL.blk (i := 1) rfl) (ya ⟨aq.sl.one, trivial⟩) (Nat.le_of_ble_eq_true rfl) rfl ?_)
 intro w631 iP
 have iQ := bL.pt1 iP
 exact fun D U H => ⟨(Exists.intro m (Exists.intro j (And.intro ((H 17 dc).trans z) (And.intro ((H 18 dc).trans A) iQ)))), trivial⟩
 intro kE vals w639 iR iS iT
 have co : kE ∈ [7] := iR
 simp only [List.mem_cons, List.not_mem_nil, or_false] at co
 subst co
 obtain ⟨m, j, z, A, ds⟩ := iS
 refine obl rfl ((zy (v := .agg #[Iv (e.typ), Iv (e.agg), Iv (e.field)]) (c' := #[Iv (e.typ), Iv (e.agg), Iv (e.field)]) Tryd.sizeOf133 A (iT 16 dc) (ds.blk (i := 0) rfl) (ya ⟨rfl, rfl, rfl, trivial⟩) (Nat.le_of_ble_eq_true rfl) rfl ?_))
 intro w645 iU
 have iV := ds.pt0 iU
 exact fun D U H => ⟨(Exists.intro m (Exists.intro j (And.intro ((H 17 dc).trans z) (And.intro ((H 18 dc).trans A) iV)))), trivial⟩
 intro vals kF iW hA650
 obtain ⟨m, j, z, A, dt⟩ := iW
 refine yf (kv := [(0, Ix b 0), (1, .agg (e.cells ve0).toArray), (3, Ix q 0), (4, .bool false), (5, Ix y 0), (25, .bool false), (6, Ix m 0), (7, Ix j 0)]) ⟨rfl, rfl, rfl, rfl, rfl, rfl, (by exact z), (by exact A), trivial⟩ (fun ρw648 => (zf (zd (zd ?_))))
 have bN : e.typ.toNat < d.types.length := bo
 obtain ⟨cp, T, ap⟩ := P.typ bN
 rw [← zm default bN] at cp T ap
 have hsm654 : ((d.types.getD e.typ.toNat default).fields).length * 48 ≤ 140737488355328 := T.small
 have hcw655 := dt.cells cp (P.foot (ne_of_lt bN))
 have iX := dt.mv6
 obtain ⟨l, ec, iY⟩ := iX.mapoTake (Iz) (e.typ, e.agg, e.field)
 have iZ := iY.mv1
 have du : Sep K p ((RwV l (zY (e.typ, e.agg, e.field) M)) :: (Md1 S M e l) :: (BkP j e) :: (BkT m d e p g) :: (Blk y #[Iv 0, Iv 0] 57) :: (Blk q (e.cells ve0).toArray 59) :: (BkV b g F Q N S) :: (yw yR E1 N (zp d M)) :: (RwI ve0 e.deps) :: aj) kF := Qk iZ ec
 have dv := du.row (i := 0) rfl
 have hr662s : _ * 96 ≤ _ := dv.2
 have hdl9 := UG (e.typ, e.agg, e.field) M
 refine WD4 (WF [fun vals C => Sep K p ((RwV l (zY (e.typ, e.agg, e.field) M)) :: (Md1 S M e l) :: (BkP j e) :: (BkT m d e p g) :: (Blk y #[Iv 0, Iv 0] 57) :: (Blk q (e.cells ve0).toArray 59) :: (BkV b g F Q N S) :: (yw yR E1 N (zp d M)) :: (RwI ve0 e.deps) :: aj) C]) (AF [Vl 0 (Ix b 0), Vl 1 (Ix b 0), Vl 2 (Ix b 4), Vl 3 (.map (some S)), Vl 4 (.agg #[Iv (e.typ), Iv (e.agg), Iv (e.field)]), Vl 5 (l), Vl 6 (Iw ((zY (e.typ, e.agg, e.field) M).length)), Vl 7 (Iv 0)]) [[], [0], [0, 1], [0, 1, 2], [], (rg 5), (rg 6), []] [] [(0, 0), (0, 0), (0, 0), (0, 0), (0, 0), (0, 0), (0, 0), (0, 0)] du ⟨?_, ?_, ?_, ?_, ?_, ?_, ?_, ?_, trivial⟩ ?_
 exact fun _ _ _ _ _ _ _ => obl rfl (zb (v := Ix b 0) rfl dR)
 exact fun _ _ _ _ _ _ ja => obl rfl (zH (b := b) (o := 0) (ja 0 dc) dR)
 exact fun _ _ _ _ _ _ jb => obl rfl (Uc (jb 1 dc) dR)
 exact ob1 0 fun _ _ (jc : Sep _ _ _ _) jd => obl rfl (zg (v := .map (some S)) Tryd.isAgg109 (jd 2 dc) (zh (jc.blk (i := 6) rfl) rfl) dR)
 exact ob1 0 fun _ _ (je : Sep _ _ _ _) _ => obl rfl (zl (k := 3) Tryd.isAgg133 Tryd.sizeOf133 rfl rfl (CellsAt.all (je.blk (i := 2) rfl)) dR)
 exact ob1 0 fun _ _ (jf : Sep _ _ _ _) dw => obl rfl (VB jf (i := 1) rfl K3 Tryd.underlying109 Tryd.zeroValue47 (dw 3 dc) (dw 4 dc) dR)
 exact ob1 0 fun _ _ _ jg => obl rfl (zJ (n := (zY (e.typ, e.agg, e.field) M).length) Tryd.underlying47 (jg 5 dc) dv.1 dR)
 exact fun _ _ _ _ _ _ _ => obl rfl (zb (v := Iv 0) rfl dR)
 intro vals Y jh bO
 have ji : Sep _ _ _ _ := jh
 have kG := bO 5 dc
 have kH := bO 6 dc
 have kI := bO 7 dc
 refine yf (kv := [(0, Ix b 0), (1, .agg (e.cells ve0).toArray), (3, Ix q 0), (4, .bool false), (5, Ix y 0), (25, .bool false), (6, Ix m 0), (7, Ix j 0), (49, l), (50, Iw ((zY (e.typ, e.agg, e.field) M).length)), (51, Iv 0)]) ⟨rfl, rfl, rfl, rfl, rfl, rfl, rfl, rfl, (by exact kG), (by exact kH), (by exact kI), trivial⟩ (fun ρw779 => (zf (zw ?_)))
 obtain ⟨bf, jj, aB, jk, dx⟩ := ji.lend
 have aC := RowE.rd jj
 have hrd792s : _ * 96 ≤ _ := aC.small
 have dy := jk.s8_bcdefhag
 generalize dz : ((Md1 S M e l) :: (yw yR E1 N (zp d M)) :: aj) = bP at dy
 refine yd (fun mq σ C => ∃ (k : Nat) (ρ : Env), mq = (zY (e.typ, e.agg, e.field) M).length - k ∧ σ = yh ρ [(0, Ix b 0), (3, Ix q 0), (5, Ix y 0), (6, Ix m 0), (7, Ix j 0), (49, l), (50, Iw ((zY (e.typ, e.agg, e.field) M).length)), (51, Iw k)] ∧ (k ≤ (zY (e.typ, e.agg, e.field) M).length) ∧ (∀ i, i < k → yG ((d.types.getD e.typ.toNat default).fields.getD e.field.toNat default) ((zY (e.typ, e.agg, e.field) M).getD i default) e = false) ∧ Sep bf Y ((BkP j e) :: (BkT m d e p g) :: (Blk y #[Iv 0, Iv 0] 57) :: (Blk q (e.cells ve0).toArray 59) :: (BkV b g F Q N S) :: (RwI ve0 e.deps) :: bP) C) ⟨0, _, rfl, zq ⟨rfl, rfl, rfl, rfl, rfl, rfl, rfl, rfl, trivial⟩, Nat.zero_le _, (fun i h => absurd h (Nat.not_lt_zero i)), dy⟩ ?_
 rintro m797 σ798 kJ ⟨k, ρl1, rfl, rfl, hkk, hno, aQ⟩
 refine zd (za kr (fun _ => (st (zL (k := .i64) (a := ((k : Nat) : Int)) (b := (((zY (e.typ, e.agg, e.field) M).length : Nat) : Int)) rfl rfl (zf (zd ?_))))))
 cases aR : decide (((k : Nat) : Int) < (((zY (e.typ, e.agg, e.field) M).length : Nat) : Int))
 have aR := fD aR
 rw [← dz] at aQ
 have jl := dx _ _ aQ
 have hfree := UB hfz (fun i hi => hno i om)
 refine zn rfl (yc (zU (zd ?_)))
 have jm := jl.mv8
 obtain ⟨vs803, ed, jn⟩ := jm.mapoTake XI (e.typ, e.agg)
 have jo := jn.mv1
 obtain ⟨I, rfl, jp⟩ := XN jo ed
 have cq : Sep K p ((RwC I (stL d (e.typ, e.agg) M)) :: (Ms1 N d M (e.typ, e.agg) I) :: (RwV l (zY (e.typ, e.agg, e.field) M)) :: (BkP j e) :: (BkT m d e p g) :: (Blk y #[Iv 0, Iv 0] 57) :: (Blk q (e.cells ve0).toArray 59) :: (BkV b g F Q N S) :: (RwI ve0 e.deps) :: (Md1 S M e l) :: aj) kJ := jp
 have dB := cq.row (i := 0) rfl
 have hr809s : _ * 32 ≤ _ := dB.2
 have dC := cq.s10_abdeghjcif
 generalize dD : ((Md1 S M e l) :: (RwV l (zY (e.typ, e.agg, e.field) M)) :: (RwI ve0 e.deps) :: (Blk y #[Iv 0, Iv 0] 57) :: aj) = bg at dC
 have hve9 := YK (e.typ, e.agg) M
 refine WD4 ((fun TT O => WF [fun vals C => Sep K p (O :: TT) C, fun vals C => ∃ (u : Nat), (vals 10 = (Ix u 0 : Value)) ∧ Sep K p ((Blk u #[Iv 0, (Iz)] 68) :: O :: TT) C, fun vals C => ∃ (u : Nat), (vals 10 = (Ix u 0 : Value)) ∧ Sep K p ((BkS u M (e.typ, e.agg) I) :: O :: TT) C]) ((Ms1 N d M (e.typ, e.agg) I) :: (BkP j e) :: (BkT m d e p g) :: (Blk q (e.cells ve0).toArray 59) :: (BkV b g F Q N S) :: bg) (RwC I (stL d (e.typ, e.agg) M))) (AF [Vl 0 (Ix b 0), Vl 1 (Ix b 0), Vl 2 (Ix b 3), Vl 3 (.map (some N)), Vl 4 (Ix j 0), Vl 5 (.agg #[Iv (e.typ), Iv (e.agg)]), Vl 6 (.tuple #[.agg #[Iw (zZ (e.typ, e.agg) M), I], .bool (((zp d M) (e.typ, e.agg)).isSome)]), Vl 7 (.tuple #[.agg #[Iw (zZ (e.typ, e.agg) M), I], .bool (((zp d M) (e.typ, e.agg)).isSome)]), Vl 8 (.agg #[Iw (zZ (e.typ, e.agg) M), I]), Vl 9 (.bool (((zp d M) (e.typ, e.agg)).isSome)), fun _ => True, fun _ => True, Vl 12 (.bool (((zp d M) (e.typ, e.agg)).isSome))]) [[], [0], [0, 1], [0, 1, 2], [], [4], (rg 6), (rg 7), (rg 8), (rg 8), [], [0, 1, 2, 3, 4, 5, 6, 7, 8, 10], (rg 12)] [10, 11] [(0, 1), (0, 1), (0, 1), (0, 1), (0, 1), (0, 1), (0, 1), (0, 1), (0, 1), (0, 2), (0, 0), (1, 1), (2, 2)] dC ⟨?_, ?_, ?_, ?_, ?_, ?_, ?_, ?_, ?_, ?_, ?_, ?_, ?_, trivial⟩ ?_
 exact fun _ _ _ _ _ _ _ => obl rfl (zb (v := Ix b 0) rfl dR)
 exact fun _ _ _ _ _ _ jq => obl rfl (zH (b := b) (o := 0) (jq 0 dc) dR)
 exact fun _ _ _ _ _ _ jr => obl rfl (Wi (jr 1 dc) dR)
 refine fun bQ _ _ kK kL dE dF => ?_
 have hkk : bQ = 0 ∨ bQ = 1 := by have h1 : 0 ≤ bQ := kK; have h2 : bQ ≤ 1 := kL; omega
 rcases hkk with rfl | rfl
 have js : Sep _ _ _ _ := dE
 exact obl rfl (zg (v := .map (some N)) Tryd.isAgg108 (dF 2 dc) (zh (js.blk (i := 5) rfl) rfl) dR)
 obtain ⟨u, ak, jt⟩ := dE
 exact obl rfl (zg (v := .map (some N)) Tryd.isAgg108 (dF 2 dc) (zh (jt.blk (i := 6) rfl) rfl) dR)
 exact fun _ _ _ _ _ _ _ => obl rfl (VX rfl dR)
 refine fun bT _ _ kM kN dG dH => ?_
 have hkk : bT = 0 ∨ bT = 1 := by have h1 : 0 ≤ bT := kM; have h2 : bT ≤ 1 := kN; omega
 rcases hkk with rfl | rfl
 have ju : Sep _ _ _ _ := dG
 exact obl rfl (zl (k := 2) (cs := [Iv (e.typ), Iv (e.agg)]) Tryd.isAgg120 Tryd.sizeOf120 rfl (dH 4 dc) (CellsAt.sub (CellsAt.all (ju.blk (i := 2) rfl)) 0 (cs2 := [Iv (e.typ), Iv (e.agg)]) rfl) dR)
 obtain ⟨u, ak, jv⟩ := dG
 exact obl rfl (zl (k := 2) (cs := [Iv (e.typ), Iv (e.agg)]) Tryd.isAgg120 Tryd.sizeOf120 rfl (dH 4 dc) (CellsAt.sub (CellsAt.all (jv.blk (i := 3) rfl)) 0 (cs2 := [Iv (e.typ), Iv (e.agg)]) rfl) dR)
 refine fun bU _ _ kO kP dI aS => ?_
 have hkk : bU = 0 ∨ bU = 1 := by have h1 : 0 ≤ bU := kO; have h2 : bU ≤ 1 := kP; omega
 rcases hkk with rfl | rfl
 have jw : Sep _ _ _ _ := dI
 exact obl rfl (Zv jw (i := 1) rfl K2 Tryd.underlying108 Tryd.zeroValue68 (aS 3 dc) (aS 5 dc) dR)
 obtain ⟨u, ak, jx⟩ := dI
 exact obl rfl (Zv jx (i := 2) rfl K2 Tryd.underlying108 Tryd.zeroValue68 (aS 3 dc) (aS 5 dc) dR)
 exact fun _ _ _ _ _ _ jy => obl rfl (zb (v := .tuple #[.agg #[Iw (zZ (e.typ, e.agg) M), I], .bool (((zp d M) (e.typ, e.agg)).isSome)]) (jy 6 dc) dR)
 exact fun _ _ _ _ _ _ jz => obl rfl (zE (vs := [.agg #[Iw (zZ (e.typ, e.agg) M), I], .bool (((zp d M) (e.typ, e.agg)).isSome)]) (i := 0) (v := .agg #[Iw (zZ (e.typ, e.agg) M), I]) (jz 7 dc) rfl dR)
 exact fun _ _ _ _ _ _ jA => obl rfl (zE (vs := [.agg #[Iw (zZ (e.typ, e.agg) M), I], .bool (((zp d M) (e.typ, e.agg)).isSome)]) (i := 1) (v := .bool (((zp d M) (e.typ, e.agg)).isSome)) (jA 7 dc) rfl dR)
 refine ob1 0 fun _ _ (jB : Sep _ _ _ _) _ => (obl rfl ((zB Tryd.zeroValue68 ?_)))
 intro w894 u jC
 have jD := jB.new jC
 exact fun D U H => ⟨(Exists.intro u (And.intro U jD)), trivial⟩
 refine ob1 1 fun _ _ jE jF => ?_
 obtain ⟨u, ak, dJ⟩ := jE
 refine obl rfl ((zy (v := .agg #[Iw (zZ (e.typ, e.agg) M), I]) (c' := #[Iw (zZ (e.typ, e.agg) M), I]) Tryd.sizeOf68 ak (jF 8 dc) (dJ.blk (i := 0) rfl) (ya ⟨rfl, dB.1.one, trivial⟩) (Nat.le_of_ble_eq_true rfl) rfl ?_))
 intro w905 jG
 have jH := dJ.pt0 jG
 exact fun D U H => ⟨(Exists.intro u (And.intro ((H 10 dc).trans ak) jH)), trivial⟩
 exact fun _ _ _ _ _ _ jI => obl rfl (ze (v := .bool (((zp d M) (e.typ, e.agg)).isSome)) (jI 9 dc) dR)
 intro vals w1001 ee ef
 obtain ⟨u, ak, bh⟩ := ee
 have jJ := ef 12 dc
 refine yf (kv := [(0, Ix b 0), (3, Ix q 0), (5, Ix y 0), (6, Ix m 0), (7, Ix j 0), (49, l), (50, Iw ((zY (e.typ, e.agg, e.field) M).length)), (51, Iw k), (52, .bool false), (10, Ix u 0), (11, .bool (((zp d M) (e.typ, e.agg)).isSome))]) ⟨rfl, rfl, rfl, rfl, rfl, rfl, rfl, rfl, rfl, (by exact ak), (by exact jJ), trivial⟩ (fun ρw1001 => (zf (zd (zd (za kr (fun _ => (st (zb (v := .bool (((zp d M) (e.typ, e.agg)).isSome)) rfl (st (yt (a := ((zp d M) (e.typ, e.agg)).isSome) rfl (zf ?_)))))))))))
 refine Ko (fun σ C => ∃ (R : Value) (ρ : Env), σ = yh ρ [(0, Ix b 0), (3, Ix q 0), (5, Ix y 0), (6, Ix m 0), (7, Ix j 0), (10, Ix u 0)] ∧ (R = I ∨ zZ (e.typ, e.agg) M = 0) ∧ Sep K p ((BkS u M (e.typ, e.agg) R) :: (RwC R (clL d M e)) :: (Ms1 N d M (e.typ, e.agg) I) :: (BkP j e) :: (BkT m d e p g) :: (Blk q (e.cells ve0).toArray 59) :: (BkV b g F Q N S) :: bg) C) ?_ ?_
 cases aD : !(((zp d M) (e.typ, e.agg)).isSome)
 try simp only [zj] at aD
 refine zn rfl (zv ?_)
 have cr := bh.mv1
 rw [show stL d (e.typ, e.agg) M = (zW d (e.typ, e.agg) M) from if_neg (WT aD)] at cr
 have eg := cr.mv1
 exact ⟨rfl, I, _, zq ⟨(show _ = (Ix b 0 : Value) from rfl), (show _ = (Ix q 0 : Value) from rfl), (show _ = (Ix y 0 : Value) from rfl), (show _ = (Ix m 0 : Value) from rfl), (show _ = (Ix j 0 : Value) from rfl), (show _ = (Ix u 0 : Value) from rfl), trivial⟩, (.inl rfl), eg⟩
 try simp only [zj] at aD
 refine zo rfl (za kr (fun _ => (st (zl (k := 1) Tryd.isAgg33 Tryd.sizeOf33 rfl rfl (CellsAt.all (bh.blk (i := 4) rfl)) (st (zu (f := 48) (vals := [.agg ((d.types.getD e.typ.toNat default).cells (zi p (sb g) (so g + e.typ.toNat * 1 + 0))).toArray]) (cap := []) rfl rfl Tryd.call48 (D_New (t := (d.types.getD e.typ.toNat default)) T ap bh) ?_))))))
 rintro bV w1010 ⟨_, rfl, bi⟩
 have ct := bi.row (i := 0) rfl
 have hr1012s : _ * 32 ≤ _ := ct.2
 refine st (yF rfl (stn (yv (v := bV) (c := [Iw (zZ (e.typ, e.agg) M), I]) (c' := [Iw (zZ (e.typ, e.agg) M), bV]) Tryd.sizeOf26 rfl rfl (bi.blk (i := 1) rfl) ct.1.one rfl rfl ?_)))
 intro w1013 eh
 have cu := bi.pt1 eh
 refine zf ?_
 have ki : zZ (e.typ, e.agg) M = 0 := WL aD
 rw [show (List.replicate (d.types.getD e.typ.toNat default).fields.length (⟨0, []⟩ : Cel)) = (zW d (e.typ, e.agg) M) from (UF (d := d) ki).symm] at cu
 have ei := cu.s8_badefgh
 exact ⟨rfl, bV, _, zq ⟨(show _ = (Ix b 0 : Value) from rfl), (show _ = (Ix q 0 : Value) from rfl), (show _ = (Ix y 0 : Value) from rfl), (show _ = (Ix m 0 : Value) from rfl), (show _ = (Ix j 0 : Value) from rfl), (show _ = (Ix u 0 : Value) from rfl), trivial⟩, (.inr ki), ei⟩
 rintro _ w1017 ⟨R, ρj1, rfl, kQ, ac⟩
 have ej := ac.row (i := 1) rfl
 have hr1019s : _ * 32 ≤ _ := ej.2
 refine zd (zd (za kr (fun _ => (st (zl (k := 1) Tryd.isAgg33 Tryd.sizeOf33 rfl rfl (CellsAt.all (ac.blk (i := 4) rfl)) (st (yF rfl (st (zg (v := R) Tryd.isAgg26 rfl (zh (ac.blk (i := 0) rfl) rfl) (st (xj rfl (st (zg (v := Iv (e.field)) Tryd.isAgg3 rfl (zh (ac.blk (i := 5) rfl) rfl) (st (xo rfl (st (zg (v := Iv (e.op)) Tryd.isAgg3 rfl (zh (ac.blk (i := 5) rfl) rfl) (st (xe rfl (st (zg (v := Iv (e.arg)) Tryd.isAgg3 rfl (zh (ac.blk (i := 5) rfl) rfl) ?_)))))))))))))))))))))
 have ek := ac.mv1
 obtain ⟨G1021, el, em, en, eo⟩ := ek.lend
 have bx := RowE.rd el
 have hrd1027s : _ * 32 ≤ _ := bx.small
 refine st (zu (f := 16) (vals := [.agg ((d.types.getD e.typ.toNat default).cells (zi p (sb g) (so g + e.typ.toNat * 1 + 0))).toArray, R, Iv (e.field), Iv (e.op), Iv (e.arg)]) (cap := []) rfl rfl Tryd.call16 (D_May (t := (d.types.getD e.typ.toNat default)) (c := (zW d (e.typ, e.agg) M)) (vc := R) (f := e.field) (op := e.op) (arg := e.arg) (RdS.base T em) ap bx oe.field oe.op oe.arg en ((hft.ask (hd.typ _ om) (hinv e.typ e.agg dW dX)))) ?_)
 rintro _ w1028 ⟨rfl, er⟩
 have bj := eo _ _ er
 refine st (yq (k := .i64) (a := yU (d.types.getD e.typ.toNat default) (zW d (e.typ, e.agg) M) e.field e.op e.arg) (b := 0) rfl rfl (zf ?_))
 cases ah : !decide ((yU (d.types.getD e.typ.toNat default) (zW d (e.typ, e.agg) M) e.field e.op e.arg) = 0)
 have ah := zC ah
 have hT : zK d M e = (false, 0, 0) := hfree.trans (if_neg (not_not_intro ah))
 refine zn rfl (zv (zd ?_))
 refine WD4 ((fun TT O ab ad => WF [fun vals C => Sep K p (O :: ab :: ad :: TT) C, fun vals C => ∃ (B : Value), (vals 18 = (B : Value)) ∧ Sep K p (O :: (RwC B (doL (d.types.getD e.typ.toNat default) (clL d M e) e.field e.op e.arg)) :: ab :: ad :: TT) C, fun vals C => ∃ (B : Value), (vals 18 = (B : Value)) ∧ Sep K p ((yw yR E1 N (Zr (zp d M) (e.typ, e.agg) (zZ (e.typ, e.agg) M + 1, (doL (d.types.getD e.typ.toNat default) (clL d M e) e.field e.op e.arg)))) :: O :: ab :: TT) C]) ((BkP j e) :: (BkT m d e p g) :: (Blk q (e.cells ve0).toArray 59) :: (BkV b g F Q N S) :: bg) (RwC R (clL d M e)) (BkS u M (e.typ, e.agg) R) (Ms1 N d M (e.typ, e.agg) I)) (AF [Vl 0 (Ix b 0), Vl 1 (Ix b 0), Vl 2 (Ix b 3), Vl 3 (.map (some N)), Vl 4 (Ix j 0), Vl 5 (.agg #[Iv (e.typ), Iv (e.agg)]), Vl 6 (Ix u 0), Vl 7 (Iw (zZ (e.typ, e.agg) M)), Vl 8 (Iw (zZ (e.typ, e.agg) M + 1)), Vl 9 (.agg ((d.types.getD e.typ.toNat default).cells (zi p (sb g) (so g + e.typ.toNat * 1 + 0))).toArray), Vl 10 (Ix u 1), Vl 11 (R), Vl 12 (Ix q 6), Vl 13 (Iv (e.field)), Vl 14 (Ix q 7), Vl 15 (Iv (e.op)), Vl 16 (Ix q 8), Vl 17 (Iv (e.arg)), fun _ => True, fun vals => ∀ (B : Value), vals 18 = (B : Value) → vals 19 = (.agg #[Iw (zZ (e.typ, e.agg) M + 1), B] : Value), fun _ => True]) [[], [0], [0, 1], [0, 1, 2], [], [4], [], [6], [6, 7], [], [], [10], [], [12], [], [14], [], [16], [9, 10, 11, 12, 13, 14, 15, 16, 17], [6, 7, 8, 9, 10, 11, 12, 13, 14, 15, 16, 17, 18], (rg 20)] [18, 20] [(0, 1), (0, 1), (0, 1), (0, 1), (0, 1), (0, 1), (0, 1), (0, 1), (0, 1), (0, 0), (0, 0), (0, 0), (0, 0), (0, 0), (0, 0), (0, 0), (0, 0), (0, 0), (0, 0), (1, 1), (1, 1)] bj ⟨?_, ?_, ?_, ?_, ?_, ?_, ?_, ?_, ?_, ?_, ?_, ?_, ?_, ?_, ?_, ?_, ?_, ?_, ?_, ?_, ?_, trivial⟩ ?_ (hlocA := yZ ⟨dA, dA, dA, dA, dA, dA, dA, dA, dA, dA, dA, dA, dA, dA, dA, dA, dA, dA, dT, fun vals D U h => fun B al => (U 19 (.inl rfl)).trans (h B ((U 18 (.inr dc)).symm.trans al)), dT, trivial⟩)
 exact fun _ _ _ _ _ _ _ => obl rfl (zb (v := Ix b 0) rfl dR)
 exact fun _ _ _ _ _ _ es => obl rfl (zH (b := b) (o := 0) (es 0 dc) dR)
 exact fun _ _ _ _ _ _ et => obl rfl (Wi (et 1 dc) dR)
 refine fun aT _ _ jK jL cv cw => ?_
 have hkk : aT = 0 ∨ aT = 1 := by have h1 : 0 ≤ aT := jK; have h2 : aT ≤ 1 := jL; omega
 rcases hkk with rfl | rfl
 have eu : Sep _ _ _ _ := cv
 exact obl rfl (zg (v := .map (some N)) Tryd.isAgg108 (cw 2 dc) (zh (eu.blk (i := 6) rfl) rfl) dR)
 obtain ⟨B, Z, ew⟩ := cv
 exact obl rfl (zg (v := .map (some N)) Tryd.isAgg108 (cw 2 dc) (zh (ew.blk (i := 7) rfl) rfl) dR)
 exact fun _ _ _ _ _ _ _ => obl rfl (VX rfl dR)
 refine fun aU _ _ jM jN cx cy => ?_
 have hkk : aU = 0 ∨ aU = 1 := by have h1 : 0 ≤ aU := jM; have h2 : aU ≤ 1 := jN; omega
 rcases hkk with rfl | rfl
 have ex : Sep _ _ _ _ := cx
 exact obl rfl (zl (k := 2) (cs := [Iv (e.typ), Iv (e.agg)]) Tryd.isAgg120 Tryd.sizeOf120 rfl (cy 4 dc) (CellsAt.sub (CellsAt.all (ex.blk (i := 3) rfl)) 0 (cs2 := [Iv (e.typ), Iv (e.agg)]) rfl) dR)
 obtain ⟨B, Z, ey⟩ := cx
 exact obl rfl (zl (k := 2) (cs := [Iv (e.typ), Iv (e.agg)]) Tryd.isAgg120 Tryd.sizeOf120 rfl (cy 4 dc) (CellsAt.sub (CellsAt.all (ey.blk (i := 4) rfl)) 0 (cs2 := [Iv (e.typ), Iv (e.agg)]) rfl) dR)
 exact fun _ _ _ _ _ _ _ => obl rfl (ZT rfl dR)
 refine fun aV _ _ jO jP cz cA => ?_
 have hkk : aV = 0 ∨ aV = 1 := by have h1 : 0 ≤ aV := jO; have h2 : aV ≤ 1 := jP; omega
 rcases hkk with rfl | rfl
 have ez : Sep _ _ _ _ := cz
 exact obl rfl (zg (v := Iw (zZ (e.typ, e.agg) M)) Tryd.isAgg3 (cA 6 dc) (zh (ez.blk (i := 1) rfl) rfl) dR)
 obtain ⟨B, Z, eA⟩ := cz
 exact obl rfl (zg (v := Iw (zZ (e.typ, e.agg) M)) Tryd.isAgg3 (cA 6 dc) (zh (eA.blk (i := 2) rfl) rfl) dR)
 refine fun aW _ _ jQ jR cB cC => ?_
 have hkk : aW = 0 ∨ aW = 1 := by have h1 : 0 ≤ aW := jQ; have h2 : aW ≤ 1 := jR; omega
 rcases hkk with rfl | rfl
 have hS1278 : Sep _ _ _ _ := cB
 refine obl rfl ?_
 have eB : InR ((zZ (e.typ, e.agg) M + 1 : Nat) : Int) := bo
 exact zV (r := ((zZ (e.typ, e.agg) M + 1 : Nat) : Int)) (k := .i64) (a := ((zZ (e.typ, e.agg) M : Nat) : Int)) (b := 1) (cC 7 (by decide)) rfl (by rw [show (((zZ (e.typ, e.agg) M : Nat) : Int) + 1 : Int) = ((zZ (e.typ, e.agg) M + 1 : Nat) : Int) from bo]; exact zM eB) dR
 obtain ⟨B, Z, hS1281⟩ := cB
 refine obl rfl ?_
 have eC : InR ((zZ (e.typ, e.agg) M + 1 : Nat) : Int) := bo
 exact zV (r := ((zZ (e.typ, e.agg) M + 1 : Nat) : Int)) (k := .i64) (a := ((zZ (e.typ, e.agg) M : Nat) : Int)) (b := 1) (cC 7 (by decide)) rfl (by rw [show (((zZ (e.typ, e.agg) M : Nat) : Int) + 1 : Int) = ((zZ (e.typ, e.agg) M + 1 : Nat) : Int) from bo]; exact zM eC) dR
 exact ob1 0 fun _ _ (eD : Sep _ _ _ _) _ => obl rfl (zl (k := 1) Tryd.isAgg33 Tryd.sizeOf33 rfl rfl (CellsAt.all (eD.blk (i := 4) rfl)) dR)
 exact fun _ _ _ _ _ _ _ => obl rfl (yF rfl dR)
 exact ob1 0 fun _ _ (eE : Sep _ _ _ _) eF => obl rfl (zg (v := R) Tryd.isAgg26 (eF 10 dc) (zh (eE.blk (i := 1) rfl) rfl) dR)
 exact fun _ _ _ _ _ _ _ => obl rfl (xj rfl dR)
 exact ob1 0 fun _ _ (eG : Sep _ _ _ _) eH => obl rfl (zg (v := Iv (e.field)) Tryd.isAgg3 (eH 12 dc) (zh (eG.blk (i := 5) rfl) rfl) dR)
 exact fun _ _ _ _ _ _ _ => obl rfl (xo rfl dR)
 exact ob1 0 fun _ _ (eI : Sep _ _ _ _) eJ => obl rfl (zg (v := Iv (e.op)) Tryd.isAgg3 (eJ 14 dc) (zh (eI.blk (i := 5) rfl) rfl) dR)
 exact fun _ _ _ _ _ _ _ => obl rfl (xe rfl dR)
 exact ob1 0 fun _ _ (eK : Sep _ _ _ _) eL => obl rfl (zg (v := Iv (e.arg)) Tryd.isAgg3 (eL 16 dc) (zh (eK.blk (i := 5) rfl) rfl) dR)
 refine ob1 0 fun vals _ (eM : Sep _ _ _ _) am => (obl rfl ?_)
 obtain ⟨G1172, eN, eO, eP, eQ⟩ := eM.lend
 have bz := RowE.rd eN
 have hrd1178s : _ * 32 ≤ _ := bz.small
 refine (zu (f := 17) (vals := [.agg ((d.types.getD e.typ.toNat default).cells (zi p (sb g) (so g + e.typ.toNat * 1 + 0))).toArray, R, Iv (e.field), Iv (e.op), Iv (e.arg)]) (cap := []) rfl (yP ⟨(am 9 dc), (am 11 dc), (am 13 dc), (am 15 dc), (am 17 dc), trivial⟩) Tryd.call17 (D_Do (t := (d.types.getD e.typ.toNat default)) (c := (zW d (e.typ, e.agg) M)) (vc := R) (f := e.field) (op := e.op) (arg := e.arg) (RdS.base T eO) ap bz oe.field oe.op oe.arg eP ((hft.ask (hd.typ _ om) (hinv e.typ e.agg dW dX))) ((fun _ => Qr (hinv e.typ e.agg dW dX) hfl hfh))) ?_)
 rintro B w1180 ⟨_, rfl, cD⟩
 have eR := cD.row (i := 0) rfl
 have hr1182s : _ * 32 ≤ _ := eR.2
 have eS := eQ _ _ cD
 exact fun D U H => ⟨(Exists.intro B (And.intro U eS)), trivial⟩
 refine ob1 1 fun _ _ eT eU => ?_
 obtain ⟨B, Z, eV⟩ := eT
 refine obl rfl ?_
 have cE := eV.row (i := 1) rfl
 have hr1356s : _ * 32 ≤ _ := cE.2
 refine zQ (parts' := [(0, Iw (zZ (e.typ, e.agg) M + 1)), (1, B)]) (v := .agg #[Iw (zZ (e.typ, e.agg) M + 1), B]) (xF ⟨rfl, (eU 8 (by decide)), rfl, Z, trivial⟩) (by obtain ⟨_, _, eW, _⟩ := cE.1; rw [show B = Value.slice _ _ _ from eW]; simp [Instr.build, Instr.fill, Ev.cells, go_sem, Mv.cells, Fld.cells, Typ.cells, Prj.cells, Dcl.cells, Cel.cells, AskR.cells, Ask.cells, CelS.cells, Ev.cells, Ent.cells, Sta.cells]) (fun D U H => ⟨rfl, ?_⟩)
 intro v1179q al
 rw [H 18 (by decide)] at al; cases Z.symm.trans al
 exact U
 refine ob1 1 fun vals jS eX bl => ?_
 obtain ⟨B, Z, eY⟩ := eX
 have jT : vals 19 = (.agg #[Iw (zZ (e.typ, e.agg) M + 1), B] : Value) := bl 19 dc B Z
 refine obl rfl ?_
 have eZ := eY.mv1
 have fa : Sep K p ((E1 (.agg #[Iw (zZ (e.typ, e.agg) M + 1), B]) (zZ (e.typ, e.agg) M + 1, (doL (d.types.getD e.typ.toNat default) (clL d M e) e.field e.op e.arg))) :: (RwC R (clL d M e)) :: (BkS u M (e.typ, e.agg) R) :: (Ms1 N d M (e.typ, e.agg) I) :: (BkP j e) :: (BkT m d e p g) :: (Blk q (e.cells ve0).toArray 59) :: (BkV b g F Q N S) :: bg) jS := Uz (n := zZ (e.typ, e.agg) M + 1) eZ
 have fb := fa.mv3
 refine (Xx fb K2 Tryd.underlying108 (bl 3 dc) (bl 5 dc) jT ?_)
 intro jU fc
 have dP : Sep K p ((yw yR E1 N (Zr (zp d M) (e.typ, e.agg) (zZ (e.typ, e.agg) M + 1, (doL (d.types.getD e.typ.toNat default) (clL d M e) e.field e.op e.arg)))) :: (RwC R (clL d M e)) :: (BkS u M (e.typ, e.agg) R) :: (BkP j e) :: (BkT m d e p g) :: (Blk q (e.cells ve0).toArray 59) :: (BkV b g F Q N S) :: bg) jU := fc
 exact fun D U H => ⟨(Exists.intro B (And.intro ((H 18 dc).trans Z) dP)), trivial⟩
 intro vals w1357 fd hA1359
 obtain ⟨B, Z, cF⟩ := fd
 refine yf (kv := [(0, Ix b 0), (3, Ix q 0), (5, Ix y 0), (6, Ix m 0), (7, Ix j 0), (10, Ix u 0), (82, .agg ((d.types.getD e.typ.toNat default).cells (zi p (sb g) (so g + e.typ.toNat * 1 + 0))).toArray), (83, Ix u 1), (84, R), (85, Ix q 6), (86, Iv (e.field)), (87, Ix q 7), (88, Iv (e.op)), (89, Ix q 8), (90, Iv (e.arg)), (91, Iv (yU (d.types.getD e.typ.toNat default) (zW d (e.typ, e.agg) M) e.field e.op e.arg)), (92, .bool false)]) ⟨rfl, rfl, rfl, rfl, rfl, rfl, rfl, rfl, rfl, rfl, rfl, rfl, rfl, rfl, rfl, rfl, rfl, trivial⟩ (fun ρw1357 => (zf (zd ?_)))
 rw [← dD] at cF
 refine WD4 ((fun TT O ab ad aG aH cG cH kj fe ff => WF [fun vals C => Sep K p (O :: ab :: ad :: aG :: aH :: cG :: cH :: kj :: fe :: ff :: TT) C, fun vals C => ∃ (J : Nat), (vals 6 = ((Iy J 1 1) : Value)) ∧ Sep K p ((Blk J (e.cells ve0).toArray 59) :: O :: ab :: ad :: aG :: aH :: cG :: cH :: kj :: fe :: ff :: TT) C, fun vals C => ∃ (J : Nat) (s : Int), (vals 6 = ((Iy J 1 1) : Value)) ∧ (vals 7 = (.tuple #[l, Iv s] : Value)) ∧ Sep K p ((XM xd E2 S (yu M) (e.typ, e.agg, e.field) s) :: (Blk J (e.cells ve0).toArray 59) :: O :: ab :: ad :: aG :: aH :: cG :: cH :: fe :: ff :: TT) C, fun vals C => ∃ (J : Nat) (s : Int) (aa : Value), (vals 6 = ((Iy J 1 1) : Value)) ∧ (vals 7 = (.tuple #[l, Iv s] : Value)) ∧ (vals 9 = (aa : Value)) ∧ Sep K p ((RwV aa ((zY (e.typ, e.agg, e.field) M) ++ [e])) :: (XM xd E2 S (yu M) (e.typ, e.agg, e.field) s) :: O :: ab :: ad :: aG :: aH :: cG :: cH :: TT) C, fun vals C => ∃ (J : Nat) (s : Int) (aa : Value), (vals 6 = ((Iy J 1 1) : Value)) ∧ (vals 7 = (.tuple #[l, Iv s] : Value)) ∧ (vals 9 = (aa : Value)) ∧ Sep K p ((yw xd E2 S (Zr (yu M) (e.typ, e.agg, e.field) ((zY (e.typ, e.agg, e.field) M) ++ [e]))) :: O :: ab :: ad :: aG :: aH :: cG :: cH :: TT) C]) ((Blk y #[Iv 0, Iv 0] 57) :: aj) (yw yR E1 N (Zr (zp d M) (e.typ, e.agg) (zZ (e.typ, e.agg) M + 1, (doL (d.types.getD e.typ.toNat default) (clL d M e) e.field e.op e.arg)))) (RwC R (clL d M e)) (BkS u M (e.typ, e.agg) R) (BkP j e) (BkT m d e p g) (Blk q (e.cells ve0).toArray 59) (BkV b g F Q N S) (Md1 S M e l) (RwV l (zY (e.typ, e.agg, e.field) M)) (RwI ve0 e.deps)) (AF [Vl 0 (Ix b 0), Vl 1 (Ix b 0), Vl 2 (Ix b 4), Vl 3 (.map (some S)), Vl 4 (.agg #[Iv (e.typ), Iv (e.agg), Iv (e.field)]), Vl 5 (.agg (e.cells ve0).toArray), fun _ => True, fun _ => True, Vl 8 (l), fun _ => True, fun vals => ∀ (s : Int), vals 7 = (.tuple #[l, Iv s] : Value) → vals 10 = (Iv s : Value), fun _ => True]) [[], [0], [0, 1], [0, 1, 2], [], [], [5], (rg 7), (rg 8), (rg 9), (rg 8), (rg 11)] [6, 7, 9, 11] [(0, 1), (0, 1), (0, 1), (0, 1), (0, 1), (0, 0), (0, 0), (1, 1), (2, 2), (2, 2), (2, 3), (3, 3)] cF ⟨?_, ?_, ?_, ?_, ?_, ?_, ?_, ?_, ?_, ?_, ?_, ?_, trivial⟩ ?_ (hlocA := yZ ⟨dA, dA, dA, dA, dA, dA, dT, dT, dA, dT, fun vals D U h => fun s al => (U 10 (.inl rfl)).trans (h s ((U 7 (.inr dc)).symm.trans al)), dT, trivial⟩)
 exact fun _ _ _ _ _ _ _ => obl rfl (zb (v := Ix b 0) rfl dR)
 exact fun _ _ _ _ _ _ fg => obl rfl (zH (b := b) (o := 0) (fg 0 dc) dR)
 exact fun _ _ _ _ _ _ fh => obl rfl (Uc (fh 1 dc) dR)
 refine fun aX _ _ jV jW cI cJ => ?_
 have hkk : aX = 0 ∨ aX = 1 := by have h1 : 0 ≤ aX := jV; have h2 : aX ≤ 1 := jW; omega
 rcases hkk with rfl | rfl
 have fi : Sep _ _ _ _ := cI
 exact obl rfl (zg (v := .map (some S)) Tryd.isAgg109 (cJ 2 dc) (zh (fi.blk (i := 6) rfl) rfl) dR)
 obtain ⟨J, X, fj⟩ := cI
 exact obl rfl (zg (v := .map (some S)) Tryd.isAgg109 (cJ 2 dc) (zh (fj.blk (i := 7) rfl) rfl) dR)
 refine fun aY _ _ jX jY cK _ => ?_
 have hkk : aY = 0 ∨ aY = 1 := by have h1 : 0 ≤ aY := jX; have h2 : aY ≤ 1 := jY; omega
 rcases hkk with rfl | rfl
 have fk : Sep _ _ _ _ := cK
 exact obl rfl (zl (k := 3) Tryd.isAgg133 Tryd.sizeOf133 rfl rfl (CellsAt.all (fk.blk (i := 3) rfl)) dR)
 obtain ⟨J, X, fl⟩ := cK
 exact obl rfl (zl (k := 3) Tryd.isAgg133 Tryd.sizeOf133 rfl rfl (CellsAt.all (fl.blk (i := 4) rfl)) dR)
 exact ob1 0 fun _ _ (fm : Sep _ _ _ _) _ => obl rfl (zl (k := 10) Tryd.isAgg59 Tryd.sizeOf59 rfl rfl (CellsAt.all (fm.blk (i := 5) rfl)) dR)
 refine ob1 0 fun _ _ (fn : Sep _ _ _ _) fo => (obl rfl ((zD (k := 10) (parts' := [(0, .agg (e.cells ve0).toArray)]) (c := (e.cells ve0).toArray) Tryd.underlying47 Tryd.sizeOf59 Tryd.zeroValue59 dc (xF ⟨rfl, (fo 5 dc), trivial⟩) kr ?_)))
 intro w1413 J fp
 have fq := fn.new fp
 exact fun D U H => ⟨(Exists.intro J (And.intro U fq)), trivial⟩
 refine ob1 1 fun _ _ fr cL => ?_
 obtain ⟨J, X, fs⟩ := fr
 refine obl rfl ?_
 have ft := fs.mv8
 refine (Wf ft K3 Tryd.underlying109 Tryd.zeroValue47 (cL 3 dc) (cL 4 dc) ?_)
 intro w1425 s fu
 exact fun D U H => ⟨(Exists.intro J (Exists.intro s (And.intro ((H 6 dc).trans X) (And.intro U fu)))), trivial⟩
 refine ob1 2 fun _ _ fv _ => ?_
 obtain ⟨J, s, X, V, hS1522⟩ := fv
 exact obl rfl (zE (vs := [l, Iv s]) (i := 0) (v := l) V rfl dR)
 refine ob1 2 fun _ _ fw fx => ?_
 obtain ⟨J, s, X, V, cM⟩ := fw
 refine obl rfl ?_
 have dQ := cM.blk (i := 1) rfl
 have fy := cM.s12_jkacdefghil
 refine (yp (src := own) (bytes := 96) (x1 := e) fy el47 (fx 8 (by decide)) X dQ (fun _ _ hN => ⟨_, rfl, RowE.soft hN, oe⟩) (by first | omega | (simp only [List.length_append, List.length_cons, List.length_nil, List.length_take, List.length_drop]; omega)) rfl ?_)
 intro aa w1445 cN
 have fz := cN.row (i := 0) rfl
 have hr1450s : _ * 96 ≤ _ := fz.2
 exact fun D U H => ⟨(Exists.intro J (Exists.intro s (Exists.intro aa (And.intro ((H 6 dc).trans X) (And.intro ((H 7 dc).trans V) (And.intro U cN)))))), trivial⟩
 refine fun aZ _ _ jZ ka cO _ => ?_
 have hkk : aZ = 2 ∨ aZ = 3 := by have h1 : 2 ≤ aZ := jZ; have h2 : aZ ≤ 3 := ka; omega
 rcases hkk with rfl | rfl
 obtain ⟨J, s, X, V, hS1529⟩ := cO
 refine obl rfl (zE (vs := [l, Iv s]) (i := 1) (v := Iv s) V rfl (fun D U H => ⟨rfl, ?_⟩))
 intro dS al
 rw [H 7 (by decide)] at al; cases V.symm.trans al
 exact U
 obtain ⟨J, s, aa, X, V, aE, hS1530⟩ := cO
 refine obl rfl (zE (vs := [l, Iv s]) (i := 1) (v := Iv s) V rfl (fun D U H => ⟨rfl, ?_⟩))
 intro dS al
 rw [H 7 (by decide)] at al; cases V.symm.trans al
 exact U
 refine ob1 3 fun vals _ fA cP => ?_
 obtain ⟨J, s, aa, X, V, aE, fB⟩ := fA
 have kb : vals 10 = (Iv s : Value) := cP 10 dc s V
 refine obl rfl ?_
 have fC := fB.mv1
 refine (YS (E := E2) (v' := aa) (x' := (zY (e.typ, e.agg, e.field) M) ++ [e]) fC (cP 3 dc) kb aE ?_)
 intro w1468 fE
 exact fun D U H => ⟨(Exists.intro J (Exists.intro s (Exists.intro aa (And.intro ((H 6 dc).trans X) (And.intro ((H 7 dc).trans V) (And.intro ((H 9 dc).trans aE) fE)))))), trivial⟩
 intro vals w1531 fF hA1533
 obtain ⟨J, s, aa, X, V, aE, fG⟩ := fF
 refine yf (kv := [(0, Ix b 0), (3, Ix q 0), (5, Ix y 0), (6, Ix m 0), (7, Ix j 0), (10, Ix u 0), (82, .agg ((d.types.getD e.typ.toNat default).cells (zi p (sb g) (so g + e.typ.toNat * 1 + 0))).toArray), (83, Ix u 1), (84, R), (85, Ix q 6), (86, Iv (e.field)), (87, Ix q 7), (88, Iv (e.op)), (89, Ix q 8), (90, Iv (e.arg)), (91, Iv (yU (d.types.getD e.typ.toNat default) (zW d (e.typ, e.agg) M) e.field e.op e.arg)), (92, .bool false)]) ⟨rfl, rfl, rfl, rfl, rfl, rfl, rfl, rfl, rfl, rfl, rfl, rfl, rfl, rfl, rfl, rfl, rfl, trivial⟩ (fun ρw1531 => (zf (zd ?_)))
 refine WD4 ((fun TT O => WF [fun vals C => Sep K p (O :: TT) C, fun vals C => Sep K p (O :: TT) C]) ((yw yR E1 N (Zr (zp d M) (e.typ, e.agg) (zZ (e.typ, e.agg) M + 1, (doL (d.types.getD e.typ.toNat default) (clL d M e) e.field e.op e.arg)))) :: (RwC R (clL d M e)) :: (BkS u M (e.typ, e.agg) R) :: (BkP j e) :: (BkT m d e p g) :: (Blk q (e.cells ve0).toArray 59) :: (BkV b g F Q N S) :: (Blk y #[Iv 0, Iv 0] 57) :: aj) (yw xd E2 S (Zr (yu M) (e.typ, e.agg, e.field) ((zY (e.typ, e.agg, e.field) M) ++ [e])))) (AF [Vl 0 (.agg #[Iv 0, Iv 0]), Vl 1 (.bool false), fun _ => True]) [[], [], [0, 1]] [2] [(0, 0), (0, 0), (0, 0)] fG ⟨?_, ?_, ?_, trivial⟩ ?_
 exact ob1 0 fun _ _ (fH : Sep _ _ _ _) _ => obl rfl (zl (k := 2) Tryd.isAgg57 Tryd.sizeOf57 rfl rfl (CellsAt.all (fH.blk (i := 8) rfl)) dR)
 exact fun _ _ _ _ _ _ _ => obl rfl (ze (v := .bool false) rfl dR)
 refine ob1 0 fun _ _ (cQ : Sep _ _ _ _) fI => (obl rfl ((zy (v := .agg #[Iv 0, Iv 0]) (c' := #[Iv 0, Iv 0]) Tryd.sizeOf57 rfl (fI 0 dc) (cQ.blk (i := 8) rfl) (ya ⟨rfl, rfl, trivial⟩) (Nat.le_of_ble_eq_true rfl) rfl ?_)))
 intro w1556 fJ
 have fK := cQ.pt8 fJ
 exact fun D U H => ⟨fK, trivial⟩
 intro vals kc fL fM
 have cR : Sep _ _ _ _ := fL
 have kd := fM 1 dc
 refine yf (kv := [(0, Ix b 0), (3, Ix q 0), (5, Ix y 0), (6, Ix m 0), (7, Ix j 0), (10, Ix u 0), (82, .agg ((d.types.getD e.typ.toNat default).cells (zi p (sb g) (so g + e.typ.toNat * 1 + 0))).toArray), (83, Ix u 1), (84, R), (85, Ix q 6), (86, Iv (e.field)), (87, Ix q 7), (88, Iv (e.op)), (89, Ix q 8), (90, Iv (e.arg)), (91, Iv (yU (d.types.getD e.typ.toNat default) (zW d (e.typ, e.agg) M) e.field e.op e.arg)), (92, .bool false), (4, .bool false)]) ⟨rfl, rfl, rfl, rfl, rfl, rfl, rfl, rfl, rfl, rfl, rfl, rfl, rfl, rfl, rfl, rfl, rfl, (by exact kd), trivial⟩ (fun ρw1572 => (zf (zt (Zx (b := y) Tryd.results59 Tryd.isAgg57 Tryd.sizeOf57 rfl rfl (CellsAt.all (cR.blk (i := 8) rfl)) (show _ = (.bool false : Value) from rfl) ?_))))
 have bm := bG _ _ cR
 rw [← bF] at bm
 have an : (zS d M e).void = false := by show (zK d M e).1 = false; rw [hT]
 have bn : (zp d (M ++ [zS d M e])) = (Zr (zp d M) (e.typ, e.agg) (zZ (e.typ, e.agg) M + 1, (doL (d.types.getD e.typ.toNat default) (zW d (e.typ, e.agg) M) e.field e.op e.arg))) := WK an
 have bp : (yu (M ++ [zS d M e])) = (Zr (yu M) (e.typ, e.agg, e.field) ((zY (e.typ, e.agg, e.field) M) ++ [e])) := Ut an
 rw [← bn, ← bp] at bm
 have fN := bm.s12_iaklcbdefghj
 have fO : Sep G W ((ViewO b d L (M ++ [zS d M e])) :: (RwC R (clL d M e)) :: (BkS u M (e.typ, e.agg) R) :: (BkP j e) :: (BkT m d e p g) :: (Blk q (e.cells ve0).toArray 59) :: (Blk y #[Iv 0, Iv 0] 57) :: Rs) kc := ViewO.close (d := d) (L := L) (M := (M ++ [zS d M e])) fN
 have fP := fO.s7_a
 rw [hT]
 refine ⟨rfl, ?_, fP⟩
 exact ⟨by decide, by decide⟩
 have ah := zR ah
 have hT : zK d M e = (true, 0, 0) := hfree.trans (if_pos ah)
 refine zo rfl (zd ?_)
 rw [← dD] at bj
 refine WD4 ((fun TT O => WF [fun vals C => Sep K p (O :: TT) C, fun vals C => Sep K p (O :: TT) C]) ((BkS u M (e.typ, e.agg) R) :: (Ms1 N d M (e.typ, e.agg) I) :: (BkP j e) :: (BkT m d e p g) :: (Blk q (e.cells ve0).toArray 59) :: (BkV b g F Q N S) :: (Md1 S M e l) :: (RwV l (zY (e.typ, e.agg, e.field) M)) :: (RwI ve0 e.deps) :: (Blk y #[Iv 0, Iv 0] 57) :: aj) (RwC R (clL d M e))) (AF [Vl 0 (.agg #[Iv 0, Iv 0]), Vl 1 (.bool true), fun _ => True]) [[], [], [0, 1]] [2] [(0, 0), (0, 0), (0, 0)] bj ⟨?_, ?_, ?_, trivial⟩ ?_
 exact ob1 0 fun _ _ (fQ : Sep _ _ _ _) _ => obl rfl (zl (k := 2) Tryd.isAgg57 Tryd.sizeOf57 rfl rfl (CellsAt.all (fQ.blk (i := 10) rfl)) dR)
 exact fun _ _ _ _ _ _ _ => obl rfl (ze (v := .bool true) rfl dR)
 refine ob1 0 fun _ _ (cS : Sep _ _ _ _) fR => (obl rfl ((zy (v := .agg #[Iv 0, Iv 0]) (c' := #[Iv 0, Iv 0]) Tryd.sizeOf57 rfl (fR 0 dc) (cS.blk (i := 10) rfl) (ya ⟨rfl, rfl, trivial⟩) (Nat.le_of_ble_eq_true rfl) rfl ?_)))
 intro w1602 fS
 have fT := cS.pt10 fS
 exact fun D U H => ⟨fT, trivial⟩
 intro vals aF fU fV
 have cT : Sep _ _ _ _ := fU
 have ke := fV 1 dc
 refine yf (kv := [(0, Ix b 0), (3, Ix q 0), (5, Ix y 0), (6, Ix m 0), (7, Ix j 0), (10, Ix u 0), (82, .agg ((d.types.getD e.typ.toNat default).cells (zi p (sb g) (so g + e.typ.toNat * 1 + 0))).toArray), (83, Ix u 1), (84, R), (85, Ix q 6), (86, Iv (e.field)), (87, Ix q 7), (88, Iv (e.op)), (89, Ix q 8), (90, Iv (e.arg)), (91, Iv (yU (d.types.getD e.typ.toNat default) (zW d (e.typ, e.agg) M) e.field e.op e.arg)), (92, .bool true), (4, .bool true)]) ⟨rfl, rfl, rfl, rfl, rfl, rfl, rfl, rfl, rfl, rfl, rfl, rfl, rfl, rfl, rfl, rfl, rfl, (by exact ke), trivial⟩ (fun ρw1618 => (zf (zt (Zx (b := y) Tryd.results59 Tryd.isAgg57 Tryd.sizeOf57 rfl rfl (CellsAt.all (cT.blk (i := 10) rfl)) (show _ = (.bool true : Value) from rfl) ?_))))
 have cU := bG _ _ cT
 rw [← bF] at cU
 have fW := cU.mv1
 have fX : Sep G W ((Yp E1 (.agg #[Iw (zZ (e.typ, e.agg) M), I]) ((zp d M) (e.typ, e.agg))) :: (RwT g d.types) :: (BkS u M (e.typ, e.agg) R) :: (Ms1 N d M (e.typ, e.agg) I) :: (BkP j e) :: (BkT m d e p g) :: (Blk q (e.cells ve0).toArray 59) :: (BkV b g F Q N S) :: (Md1 S M e l) :: (RwV l (zY (e.typ, e.agg, e.field) M)) :: (RwI ve0 e.deps) :: (Blk y #[Iv 0, Iv 0] 57) :: (RwP F d.projs) :: (RwN Q L) :: Rs) aF := Wu fW kQ
 have fY := fX.mv3
 have fZ : Sep G W ((yw yR E1 N (zp d M)) :: (RwT g d.types) :: (BkS u M (e.typ, e.agg) R) :: (BkP j e) :: (BkT m d e p g) :: (Blk q (e.cells ve0).toArray 59) :: (BkV b g F Q N S) :: (Md1 S M e l) :: (RwV l (zY (e.typ, e.agg, e.field) M)) :: (RwI ve0 e.deps) :: (Blk y #[Iv 0, Iv 0] 57) :: (RwP F d.projs) :: (RwN Q L) :: Rs) aF := fY.mapoPut
 have ga := fZ.mv8
 have gc : Sep G W ((Yp E2 l ((yu M) (e.typ, e.agg, e.field))) :: (yw yR E1 N (zp d M)) :: (RwT g d.types) :: (BkS u M (e.typ, e.agg) R) :: (BkP j e) :: (BkT m d e p g) :: (Blk q (e.cells ve0).toArray 59) :: (BkV b g F Q N S) :: (Md1 S M e l) :: (RwI ve0 e.deps) :: (Blk y #[Iv 0, Iv 0] 57) :: (RwP F d.projs) :: (RwN Q L) :: Rs) aF := XO ga
 have gd := gc.mv8
 have cV : Sep G W ((yw xd E2 S (yu M)) :: (yw yR E1 N (zp d M)) :: (RwT g d.types) :: (BkS u M (e.typ, e.agg) R) :: (BkP j e) :: (BkT m d e p g) :: (Blk q (e.cells ve0).toArray 59) :: (BkV b g F Q N S) :: (RwI ve0 e.deps) :: (Blk y #[Iv 0, Iv 0] 57) :: (RwP F d.projs) :: (RwN Q L) :: Rs) aF := gd.mapoPut
 have an : (zS d M e).void = true := by show (zK d M e).1 = true; rw [hT]
 have bn : (zp d (M ++ [zS d M e])) = (zp d M) := (xq an).1
 have bp : (yu (M ++ [zS d M e])) = (yu M) := (xq (d := d) an).2
 rw [← bn, ← bp] at cV
 have ge := cV.s12_hcklbadefgij
 have gf : Sep G W ((ViewO b d L (M ++ [zS d M e])) :: (BkS u M (e.typ, e.agg) R) :: (BkP j e) :: (BkT m d e p g) :: (Blk q (e.cells ve0).toArray 59) :: (RwI ve0 e.deps) :: (Blk y #[Iv 0, Iv 0] 57) :: Rs) aF := ViewO.close (d := d) (L := L) (M := (M ++ [zS d M e])) ge
 have gg := gf.s7_a
 rw [hT]
 refine ⟨rfl, ?_, gg⟩
 exact ⟨by decide, by decide⟩
 have aR := tD aR
 refine zo rfl (zv (zd (zw (zd (za kr (fun _ => ?_))))))
 have gh : k < (zY (e.typ, e.agg, e.field) M).length := bo
 refine st (zk (k := 10) (i := k) Tryd.underlying47 Tryd.sizeOf59 rfl aC.sl rfl gh ?_)
 have bq : k < (zY (e.typ, e.agg, e.field) M).length := bo
 obtain ⟨bA, af, ar⟩ := aC.ev bq
 rw [← zm default bq] at bA af ar
 have hsm1638 : (((zY (e.typ, e.agg, e.field) M).getD k default).deps).length * 8 ≤ 140737488355328 := af.small
 have dU := aQ.cells bA (aC.foot (ne_of_lt bq))
 refine st (zl (k := 10) Tryd.isAgg59 Tryd.sizeOf59 rfl rfl dU (st (zB Tryd.zeroValue59 ?_)))
 intro w1642 ag gi
 have cW := aQ.new gi
 refine stn (zy (v := .agg (((zY (e.typ, e.agg, e.field) M).getD k default).cells (zi Y (sb l) (so l + k * 10 + 3))).toArray) (c' := (((zY (e.typ, e.agg, e.field) M).getD k default).cells (zi Y (sb l) (so l + k * 10 + 3))).toArray) Tryd.sizeOf59 rfl rfl (cW.blk (i := 0) rfl) (ya ⟨rfl, rfl, rfl, af.sl.one, rfl, rfl, rfl, rfl, rfl, rfl, trivial⟩) (Nat.le_of_ble_eq_true rfl) rfl ?_)
 intro w1644 gj
 have gk := cW.pt0 gj
 refine zf (zd ?_)
 refine WD4 ((fun O ab ad aG aH => WF [fun vals C => Sep bf Y (O :: (BkP j e) :: ab :: ad :: aG :: aH :: (RwI ve0 e.deps) :: bP) C, fun vals C => (vals 8 = (.bool ((yG (((d.types.getD e.typ.toNat default).fields).getD e.field.toNat default) ((zY (e.typ, e.agg, e.field) M).getD k default) e)) : Value)) ∧ Sep bf Y ((RwI ve0 e.deps) :: O :: (BkP j e) :: ab :: ad :: aG :: aH :: bP) C]) (Blk ag (((zY (e.typ, e.agg, e.field) M).getD k default).cells (zi Y (sb l) (so l + k * 10 + 3))).toArray 59) (BkT m d e p g) (Blk y #[Iv 0, Iv 0] 57) (Blk q (e.cells ve0).toArray 59) (BkV b g F Q N S)) (AF [Vl 0 (Ix m 0), Vl 1 ((zi p (sb g) (so g + e.typ.toNat * 1 + 0))), Vl 2 (Ix q 6), Vl 3 (Iv (e.field)), Vl 4 (Ix (sb (zi p (sb g) (so g + e.typ.toNat * 1 + 0))) (so (zi p (sb g) (so g + e.typ.toNat * 1 + 0)) + e.field.toNat * 4)), Vl 5 (.agg ((((d.types.getD e.typ.toNat default).fields).getD e.field.toNat default).cells (zi Y (sb (zi p (sb g) (so g + e.typ.toNat * 1 + 0))) (so (zi p (sb g) (so g + e.typ.toNat * 1 + 0)) + e.field.toNat * 4 + 3))).toArray), Vl 6 (.agg (((zY (e.typ, e.agg, e.field) M).getD k default).cells (zi Y (sb l) (so l + k * 10 + 3))).toArray), Vl 7 (.agg (e.cells ve0).toArray), fun _ => True]) [[], [0], [], [2], (rg 4), (rg 5), [], [], (rg 8)] [8] [(0, 0), (0, 0), (0, 0), (0, 0), (0, 0), (0, 0), (0, 0), (0, 0), (0, 0)] gk ⟨?_, ?_, ?_, ?_, ?_, ?_, ?_, ?_, ?_, trivial⟩ ?_
 exact fun _ _ _ _ _ _ _ => obl rfl (yA rfl dR)
 exact ob1 0 fun _ _ (gl : Sep _ _ _ _) gm => obl rfl (zg (v := (zi p (sb g) (so g + e.typ.toNat * 1 + 0))) Tryd.isAgg31 (gm 0 dc) (zh (gl.blk (i := 2) rfl) rfl) dR)
 exact fun _ _ _ _ _ _ _ => obl rfl (xj rfl dR)
 exact ob1 0 fun _ _ (gn : Sep _ _ _ _) go => obl rfl (zg (v := Iv (e.field)) Tryd.isAgg3 (go 2 dc) (zh (gn.blk (i := 4) rfl) rfl) dR)
 refine ob1 0 fun _ _ _ cX => (obl rfl ?_)
 have hi1774 : e.field.toNat < ((d.types.getD e.typ.toNat default).fields).length := bo
 exact zz (k := 4) (i := e.field) Tryd.underlying31 Tryd.sizeOf79 (cX 1 dc) (RdS.base T aB).sl (cX 3 dc) ⟨by omega, by omega⟩ dR
 refine ob1 0 fun _ _ (gp : Sep _ _ _ _) gq => (obl rfl ?_)
 have br : e.field.toNat < ((d.types.getD e.typ.toNat default).fields).length := bo
 obtain ⟨bB, aI, dh⟩ := (RdS.base T aB).fld br
 rw [← zm default br] at bB aI dh
 have hsm1785 : ((((d.types.getD e.typ.toNat default).fields).getD e.field.toNat default).moves).length * 32 ≤ 140737488355328 := aI.small
 have dV := gp.cells bB ((RdS.base T aB).foot (ne_of_lt br))
 exact zl (k := 4) Tryd.isAgg79 Tryd.sizeOf79 rfl (gq 4 dc) dV dR
 exact ob1 0 fun _ _ (gr : Sep _ _ _ _) _ => obl rfl (zl (k := 10) Tryd.isAgg59 Tryd.sizeOf59 rfl rfl (CellsAt.all (gr.blk (i := 0) rfl)) dR)
 exact ob1 0 fun _ _ (gs : Sep _ _ _ _) _ => obl rfl (zl (k := 10) Tryd.isAgg59 Tryd.sizeOf59 rfl rfl (CellsAt.all (gs.blk (i := 4) rfl)) dR)
 refine ob1 0 fun vals _ (cY : Sep _ _ _ _) bs => (obl rfl ?_)
 have bt : e.field.toNat < ((d.types.getD e.typ.toNat default).fields).length := bo
 obtain ⟨bC, ao, bu⟩ := (RdS.base T aB).fld bt
 rw [← zm default bt] at bC ao bu
 have hsm1723 : ((((d.types.getD e.typ.toNat default).fields).getD e.field.toNat default).moves).length * 32 ≤ 140737488355328 := ao.small
 have hcw1724 := cY.cells bC ((RdS.base T aB).foot (ne_of_lt bt))
 have gt := cY.mv6
 obtain ⟨G1726, gu, cZ, gv, gw⟩ := gt.lend
 have bD := RowE.rd gu
 have hrd1732s : _ * 8 ≤ _ := bD.small
 refine (zu (f := 41) (vals := [.agg ((((d.types.getD e.typ.toNat default).fields).getD e.field.toNat default).cells (zi Y (sb (zi p (sb g) (so g + e.typ.toNat * 1 + 0))) (so (zi p (sb g) (so g + e.typ.toNat * 1 + 0)) + e.field.toNat * 4 + 3))).toArray, .agg (((zY (e.typ, e.agg, e.field) M).getD k default).cells (zi Y (sb l) (so l + k * 10 + 3))).toArray, .agg (e.cells ve0).toArray]) (cap := []) rfl (yP ⟨(bs 5 dc), (bs 6 dc), (bs 7 dc), trivial⟩) Tryd.call41 (Ke (f := (((d.types.getD e.typ.toNat default).fields).getD e.field.toNat default)) (x := ((zY (e.typ, e.agg, e.field) M).getD k default)) (e := e) (RdS.base ao cZ) bu (RdS.base af cZ) ar bD oe gv) ?_)
 rintro _ w1733 ⟨rfl, gx⟩
 have gy := gw _ _ gx
 exact fun D U H => ⟨(And.intro U gy), trivial⟩
 intro vals w1801 gz hA1803
 obtain ⟨gA, da⟩ := gz
 refine yf (kv := [(0, Ix b 0), (3, Ix q 0), (5, Ix y 0), (6, Ix m 0), (7, Ix j 0), (49, l), (50, Iw ((zY (e.typ, e.agg, e.field) M).length)), (51, Iw k), (52, .bool true), (53, Ix (sb l) (so l + k * 10)), (54, .agg (((zY (e.typ, e.agg, e.field) M).getD k default).cells (zi Y (sb l) (so l + k * 10 + 3))).toArray), (9, Ix ag 0), (63, .bool ((yG (((d.types.getD e.typ.toNat default).fields).getD e.field.toNat default) ((zY (e.typ, e.agg, e.field) M).getD k default) e)))]) ⟨rfl, rfl, rfl, rfl, rfl, rfl, rfl, rfl, rfl, rfl, rfl, rfl, (by exact gA), trivial⟩ (fun ρw1801 => (zf ?_))
 cases db : (yG (((d.types.getD e.typ.toNat default).fields).getD e.field.toNat default) ((zY (e.typ, e.agg, e.field) M).getD k default) e)
 refine zn rfl (zv (za kr (fun _ => ?_)))
 have gB : InR ((k + 1 : Nat) : Int) := bo
 refine st (zV (r := ((k + 1 : Nat) : Int)) (k := .i64) (a := ((k : Nat) : Int)) (b := 1) rfl rfl (by rw [show (((k : Nat) : Int) + 1 : Int) = ((k + 1 : Nat) : Int) from bo]; exact zM gB) (st (zb (v := Iw (k + 1)) rfl (zf ?_))))
 have gC := da.s7_cdefga
 exact ⟨_, by omega, k + 1, _, rfl, zq ⟨rfl, rfl, rfl, rfl, rfl, rfl, rfl, rfl, trivial⟩, by omega, (yW hno db), gC⟩
 have bE := ar
 have hT := KI hfz om hno db
 refine zo rfl (zd (WD4 ((fun TT O ab => WF [fun vals C => Sep bf Y ((RwI ve0 e.deps) :: O :: (BkP j e) :: ab :: (Blk y #[Iv 0, Iv 0] 57) :: TT) C, fun vals C => Sep bf Y ((RwI ve0 e.deps) :: O :: (BkP j e) :: ab :: (Blk y #[Iv (((zY (e.typ, e.agg, e.field) M).getD k default).origin), Iv (((zY (e.typ, e.agg, e.field) M).getD k default).seq)] 57) :: TT) C]) ((Blk q (e.cells ve0).toArray 59) :: (BkV b g F Q N S) :: bP) (Blk ag (((zY (e.typ, e.agg, e.field) M).getD k default).cells (zi Y (sb l) (so l + k * 10 + 3))).toArray 59) (BkT m d e p g)) (AF [Vl 0 (Ix ag 0), Vl 1 (.agg #[Iv (((zY (e.typ, e.agg, e.field) M).getD k default).origin), Iv (((zY (e.typ, e.agg, e.field) M).getD k default).seq)]), Vl 2 (.bool true), fun _ => True]) [[], [0], [], [0, 1, 2]] [3] [(0, 0), (0, 0), (0, 0), (0, 0)] da ⟨?_, ?_, ?_, ?_, trivial⟩ ?_))
 exact fun _ _ _ _ _ _ _ => obl rfl (yM rfl dR)
 exact ob1 0 fun _ _ (gD : Sep _ _ _ _) gE => obl rfl (zl (k := 2) (cs := [Iv (((zY (e.typ, e.agg, e.field) M).getD k default).origin), Iv (((zY (e.typ, e.agg, e.field) M).getD k default).seq)]) Tryd.isAgg57 Tryd.sizeOf57 rfl (gE 0 dc) (CellsAt.sub (CellsAt.all (gD.blk (i := 1) rfl)) 0 (cs2 := [Iv (((zY (e.typ, e.agg, e.field) M).getD k default).origin), Iv (((zY (e.typ, e.agg, e.field) M).getD k default).seq)]) rfl) dR)
 exact fun _ _ _ _ _ _ _ => obl rfl (ze (v := .bool true) rfl dR)
 refine ob1 0 fun _ _ (dd : Sep _ _ _ _) gF => (obl rfl ((zy (v := .agg #[Iv (((zY (e.typ, e.agg, e.field) M).getD k default).origin), Iv (((zY (e.typ, e.agg, e.field) M).getD k default).seq)]) (c' := #[Iv (((zY (e.typ, e.agg, e.field) M).getD k default).origin), Iv (((zY (e.typ, e.agg, e.field) M).getD k default).seq)]) Tryd.sizeOf57 rfl (gF 1 dc) (dd.blk (i := 4) rfl) (ya ⟨rfl, rfl, trivial⟩) (Nat.le_of_ble_eq_true rfl) rfl ?_)))
 intro w1837 gG
 have gH := dd.pt4 gG
 exact fun D U H => ⟨gH, trivial⟩
 intro vals bW gI gJ
 have de : Sep _ _ _ _ := gI
 have kf := gJ 2 dc
 refine yf (kv := [(0, Ix b 0), (3, Ix q 0), (5, Ix y 0), (6, Ix m 0), (7, Ix j 0), (49, l), (50, Iw ((zY (e.typ, e.agg, e.field) M).length)), (51, Iw k), (52, .bool true), (53, Ix (sb l) (so l + k * 10)), (54, .agg (((zY (e.typ, e.agg, e.field) M).getD k default).cells (zi Y (sb l) (so l + k * 10 + 3))).toArray), (9, Ix ag 0), (63, .bool true), (4, .bool true)]) ⟨rfl, rfl, rfl, rfl, rfl, rfl, rfl, rfl, rfl, rfl, rfl, rfl, rfl, (by exact kf), trivial⟩ (fun ρw1860 => (zf (zt (Zx (b := y) Tryd.results59 Tryd.isAgg57 Tryd.sizeOf57 rfl rfl (CellsAt.all (de.blk (i := 4) rfl)) (show _ = (.bool true : Value) from rfl) ?_))))
 have gK := dx _ _ de
 have bv := bG _ _ gK
 rw [← dz] at bv
 rw [← bF] at bv
 have gL := bv.mv1
 have gM : Sep G W ((Yp E2 l ((yu M) (e.typ, e.agg, e.field))) :: (RwT g d.types) :: (RwI ve0 e.deps) :: (Blk ag (((zY (e.typ, e.agg, e.field) M).getD k default).cells (zi Y (sb l) (so l + k * 10 + 3))).toArray 59) :: (BkP j e) :: (BkT m d e p g) :: (Blk y #[Iv (((zY (e.typ, e.agg, e.field) M).getD k default).origin), Iv (((zY (e.typ, e.agg, e.field) M).getD k default).seq)] 57) :: (Blk q (e.cells ve0).toArray 59) :: (BkV b g F Q N S) :: (Md1 S M e l) :: (yw yR E1 N (zp d M)) :: (RwP F d.projs) :: (RwN Q L) :: Rs) bW := XO gL
 have gN := gM.mv9
 have df : Sep G W ((yw xd E2 S (yu M)) :: (RwT g d.types) :: (RwI ve0 e.deps) :: (Blk ag (((zY (e.typ, e.agg, e.field) M).getD k default).cells (zi Y (sb l) (so l + k * 10 + 3))).toArray 59) :: (BkP j e) :: (BkT m d e p g) :: (Blk y #[Iv (((zY (e.typ, e.agg, e.field) M).getD k default).origin), Iv (((zY (e.typ, e.agg, e.field) M).getD k default).seq)] 57) :: (Blk q (e.cells ve0).toArray 59) :: (BkV b g F Q N S) :: (yw yR E1 N (zp d M)) :: (RwP F d.projs) :: (RwN Q L) :: Rs) bW := gN.mapoPut
 have an : (zS d M e).void = true := by show (zK d M e).1 = true; rw [hT]
 have bn : (zp d (M ++ [zS d M e])) = (zp d M) := (xq an).1
 have bp : (yu (M ++ [zS d M e])) = (yu M) := (xq (d := d) an).2
 rw [← bn, ← bp] at df
 have gO := df.s12_ibkljacdefgh
 have gP : Sep G W ((ViewO b d L (M ++ [zS d M e])) :: (RwI ve0 e.deps) :: (Blk ag (((zY (e.typ, e.agg, e.field) M).getD k default).cells (zi Y (sb l) (so l + k * 10 + 3))).toArray 59) :: (BkP j e) :: (BkT m d e p g) :: (Blk y #[Iv (((zY (e.typ, e.agg, e.field) M).getD k default).origin), Iv (((zY (e.typ, e.agg, e.field) M).getD k default).seq)] 57) :: (Blk q (e.cells ve0).toArray 59) :: Rs) bW := ViewO.close (d := d) (L := L) (M := (M ++ [zS d M e])) gO
 have gQ := gP.s7_a
 rw [hT]
 refine ⟨rfl, ?_, gQ⟩
 exact ⟨bE.origin, bE.seq⟩
 have ai := zR ai
 have hT : zK d M e = (true, 0, 0) := YP ai
 refine zo rfl (zd (WD4 ((fun TT => WF [fun vals C => Sep G W ((RwT g d.types) :: TT) C, fun vals C => Sep G W ((RwT g d.types) :: TT) C]) ((RwP F d.projs) :: (Blk y #[Iv 0, Iv 0] 57) :: (Blk q (e.cells ve0).toArray 59) :: (BkV b g F Q N S) :: (RwN Q L) :: (yw yR E1 N (zp d M)) :: (yw xd E2 S (yu M)) :: (RwI ve0 e.deps) :: Rs)) (AF [Vl 0 (.agg #[Iv 0, Iv 0]), Vl 1 (.bool true), fun _ => True]) [[], [], [0, 1]] [2] [(0, 0), (0, 0), (0, 0)] dk ⟨?_, ?_, ?_, trivial⟩ ?_))
 exact ob1 0 fun _ _ (gR : Sep _ _ _ _) _ => obl rfl (zl (k := 2) Tryd.isAgg57 Tryd.sizeOf57 rfl rfl (CellsAt.all (gR.blk (i := 2) rfl)) dR)
 exact fun _ _ _ _ _ _ _ => obl rfl (ze (v := .bool true) rfl dR)
 refine ob1 0 fun _ _ (dg : Sep _ _ _ _) gS => (obl rfl ((zy (v := .agg #[Iv 0, Iv 0]) (c' := #[Iv 0, Iv 0]) Tryd.sizeOf57 rfl (gS 0 dc) (dg.blk (i := 2) rfl) (ya ⟨rfl, rfl, trivial⟩) (Nat.le_of_ble_eq_true rfl) rfl ?_)))
 intro w1895 gT
 have gU := dg.pt2 gT
 exact fun D U H => ⟨gU, trivial⟩
 intro vals kg gV gW
 have bw : Sep _ _ _ _ := gV
 have kh := gW 1 dc
 refine yf (kv := [(0, Ix b 0), (1, .agg (e.cells ve0).toArray), (3, Ix q 0), (4, .bool true), (5, Ix y 0), (25, .bool true)]) ⟨rfl, rfl, rfl, (by exact kh), rfl, rfl, trivial⟩ (fun ρw1911 => (zf (zt (Zx (b := y) Tryd.results59 Tryd.isAgg57 Tryd.sizeOf57 rfl rfl (CellsAt.all (bw.blk (i := 2) rfl)) (show _ = (.bool true : Value) from rfl) ?_))))
 have an : (zS d M e).void = true := by show (zK d M e).1 = true; rw [hT]
 have bn : (zp d (M ++ [zS d M e])) = (zp d M) := (xq an).1
 have bp : (yu (M ++ [zS d M e])) = (yu M) := (xq (d := d) an).2
 rw [← bn, ← bp] at bw
 have gX := bw.s9_eabfghcdi
 have gY : Sep G W ((ViewO b d L (M ++ [zS d M e])) :: (Blk y #[Iv 0, Iv 0] 57) :: (Blk q (e.cells ve0).toArray 59) :: (RwI ve0 e.deps) :: Rs) kg := ViewO.close (d := d) (L := L) (M := (M ++ [zS d M e])) gX
 have gZ := gY.s4_a
 rw [hT]
 refine ⟨rfl, ?_, gZ⟩
 exact ⟨by decide, by decide⟩

end Go.Proofs.YtlblilbmpdejgaaDoor
/- Steps of the proofs of this seat: part F5. -/
set_option maxRecDepth 8000
set_option maxHeartbeats 4000000
namespace Go.Proofs.YtlblilbmpdejgaaDoor
open Go.Proofs Go.RowKit

def yb (d : Dcl) (k : Int × Int) (L : List Ent) : Sta := ⟨((zZ k L : Nat) : Int), stL d k L⟩
theorem yS (d : Dcl) (l : List Ev) : (yn d l).length = l.length := by
  induction l using ZE with
  | h0 => rfl
  | h1 l e ih => rw [xN, List.length_append, List.length_append, ih]; rfl
theorem XD {d : Dcl} {l : List Ev} {k : Nat} (h : k < l.length) : yn d (l.take (k + 1)) = yn d (l.take k) ++ [zS d (yn d (l.take k)) (l.getD k default)] := by rw [List.take_getD (d := default) h, xN]
theorem XS {d : Dcl} {l : List Ev} {k : Nat} (h : l.length ≤ 1000000) : (yn d (l.take k)).length ≤ 1000000 := by rw [yS, List.length_take]; omega
theorem XQ {d : Option Tmp} {ty : TypeId} {pos : String} {af : Array Edge} {g : Option (Nat × Bool)} {σ : Env} {w : World} {K : Value → World → Prop} {x : Operand} {b o : Nat} (hx : ev σ x = .pointer (some ⟨b, o, none⟩)) (h : K (.pointer (some ⟨b, o + 2, none⟩)) w) : opV Tryd.prog ⟨d, .fieldAddr 111 x 1, ty, pos, af, g⟩ σ w K := zA Tryd.underlying111 rfl rfl (fun w => ⟨0, Tryd.sizeOf66 w⟩) hx h
set_option maxHeartbeats 8000000 in
theorem Kx {G : Nat → Prop} {W w : World} {Rs : List HP} {b : Nat} {d : Dcl} {L : List Ent} {e : Ev} {de0 : Value} (hde0 : RdS W G de0 e.deps) (oe : e.Ok) (hKN : RdS W G (.slice (some ⟨0, 0, none⟩) 6 6) kindsL) (hS0 : Sep G W ((ViewO b d L L) :: Rs) w) (hd : DclOk d) (hinv : Inv d L) (hml : L.length ≤ 1000000) : Ret Tryd.prog 28 [.pointer (some ⟨b, 0, none⟩), .agg (e.cells de0).toArray] w (fun r w' => ∃ (v : Value), r = (.agg ((zS d L e).cells v).toArray : Value) ∧ Sep G W ((ViewO b d (L ++ [zS d L e]) (L ++ [zS d L e])) :: (RowE (α := Int) own 3 v e.deps) :: Rs) w') := by
 have hde0s : _ * 8 ≤ _ := hde0.small
 have hKNs : _ * 8 ≤ _ := hKN.small
 refine zr (args := [Ix b 0, .agg (e.cells de0).toArray]) Tryd.func28 rfl rfl ?_
 refine zd (za kr (fun _ => (st (zT (v := .agg (e.cells de0).toArray) rfl ?_))))
 intro w3 b2 bJ
 have bK := hS0.new bJ
 refine st (zB Tryd.zeroValue62 ?_)
 intro w7 U bL
 have bi := bK.new bL
 refine zf (zd (za kr (fun _ => (st (zb (v := Ix b 0) rfl (st (zl (k := 10) Tryd.isAgg59 Tryd.sizeOf59 rfl rfl (CellsAt.all (bi.blk (i := 1) rfl)) (st (zu (f := 60) (vals := [.agg (e.cells de0).toArray]) (cap := []) rfl rfl Tryd.call60 (YD (e := e) hde0 oe bi) ?_)))))))))
 rintro _ w10 ⟨v9, rfl, ah⟩
 have bl := ah.row (i := 0) rfl
 have hr12s : _ * 8 ≤ _ := bl.2
 have bm := ah.mv3
 refine st (zu (f := 59) (vals := [Ix b 0, .agg (e.cells v9).toArray]) (cap := []) rfl rfl Tryd.call59 (D_try  oe hKN bm (hd) (hinv) (hml)) ?_)
 rintro _ w15 ⟨rfl, V, bn⟩
 refine st (zb (v := .tuple #[.bool ((zK d L e).1), .agg #[Iv ((zK d L e).2.1), Iv ((zK d L e).2.2)]]) rfl (st (zE (vs := [.bool ((zK d L e).1), .agg #[Iv ((zK d L e).2.1), Iv ((zK d L e).2.2)]]) (i := 0) (v := .bool ((zK d L e).1)) rfl rfl (st (zE (vs := [.bool ((zK d L e).1), .agg #[Iv ((zK d L e).2.1), Iv ((zK d L e).2.2)]]) (i := 1) (v := .agg #[Iv ((zK d L e).2.1), Iv ((zK d L e).2.2)]) rfl rfl (st (zB Tryd.zeroValue57 ?_)))))))
 intro w19 N bp
 have ai := bn.new bp
 refine st (ze (v := .bool ((zK d L e).1)) rfl (stn (zy (v := .agg #[Iv ((zK d L e).2.1), Iv ((zK d L e).2.2)]) (c' := #[Iv ((zK d L e).2.1), Iv ((zK d L e).2.2)]) Tryd.sizeOf57 rfl rfl (ai.blk (i := 0) rfl) (ya ⟨rfl, rfl, trivial⟩) (Nat.le_of_ble_eq_true rfl) rfl ?_)))
 intro bM bq
 have br := ai.pt0 bq
 refine zf (zd ?_)
 have hek : Ent.Ok (zS d L e) := ⟨oe, V.1, V.2⟩
 have bs := br.mv1
 obtain ⟨s, t, u, A, B, bt⟩ := ViewO.open bs
 have I : Sep G W ((BkV b s t u A B) :: (RwT s d.types) :: (RwP t d.projs) :: (RwN u L) :: (yw yR E1 A (zp d (L ++ [zS d L e]))) :: (yw xd E2 B (yu (L ++ [zS d L e]))) :: (Blk N #[Iv ((zK d L e).2.1), Iv ((zK d L e).2.2)] 57) :: (Blk U #[Iv 0, Iv 0, Iv 0, (Iz), Iv 0, Iv 0, Iv 0, Iv 0, Iv 0, Iv 0, .bool false, Iv 0, Iv 0] 62) :: (Blk b2 (e.cells de0).toArray 59) :: Rs) bM := bt
 have bu := I.row (i := 1) rfl
 have hr31s : _ * 24 ≤ _ := bu.2
 have bv := I.row (i := 2) rfl
 have hr32s : _ * 40 ≤ _ := bv.2
 have bw := I.row (i := 3) rfl
 have hr33s : _ * 120 ≤ _ := bw.2
 refine WD4 ((fun TT H C D J => WF [fun vals z => Sep G W (H :: C :: D :: J :: TT) z, fun vals z => ∃ (g : Value), (vals 6 = (.agg (e.cells g).toArray : Value)) ∧ Sep G W ((RwI g e.deps) :: H :: C :: D :: J :: TT) z, fun vals z => ∃ (g : Value) (l : Nat), (vals 6 = (.agg (e.cells g).toArray : Value)) ∧ (vals 10 = ((Iy l 1 1) : Value)) ∧ Sep G W ((Blk l ((zS d L e).cells g).toArray 62) :: (RwI g e.deps) :: H :: C :: D :: J :: TT) z, fun vals z => ∃ (g : Value) (l : Nat) (j : Value), (vals 6 = (.agg (e.cells g).toArray : Value)) ∧ (vals 10 = ((Iy l 1 1) : Value)) ∧ (vals 11 = (j : Value)) ∧ Sep G W ((RwN j (L ++ [(zS d L e)])) :: H :: C :: D :: TT) z, fun vals z => ∃ (g : Value) (l : Nat) (j : Value), (vals 6 = (.agg (e.cells g).toArray : Value)) ∧ (vals 10 = ((Iy l 1 1) : Value)) ∧ (vals 11 = (j : Value)) ∧ Sep G W ((RwN j (L ++ [(zS d L e)])) :: (BkV b s t j A B) :: C :: D :: TT) z]) ((yw yR E1 A (zp d (L ++ [zS d L e]))) :: (yw xd E2 B (yu (L ++ [zS d L e]))) :: (Blk N #[Iv ((zK d L e).2.1), Iv ((zK d L e).2.2)] 57) :: (Blk U #[Iv 0, Iv 0, Iv 0, (Iz), Iv 0, Iv 0, Iv 0, Iv 0, Iv 0, Iv 0, .bool false, Iv 0, Iv 0] 62) :: (Blk b2 (e.cells de0).toArray 59) :: Rs) (BkV b s t u A B) (RwT s d.types) (RwP t d.projs) (RwN u L)) (AF [Vl 0 (Ix b 0), Vl 1 (Ix b 0), Vl 2 (Ix b 0), Vl 3 (Ix b 2), Vl 4 (u), Vl 5 (.agg (e.cells de0).toArray), fun _ => True, Vl 7 (.bool ((zK d L e).1)), Vl 8 (.agg #[Iv ((zK d L e).2.1), Iv ((zK d L e).2.2)]), fun vals => ∀ (g : Value), vals 6 = (.agg (e.cells g).toArray : Value) → vals 9 = (.agg ((zS d L e).cells g).toArray : Value), fun _ => True, fun _ => True, Vl 12 (Ix b 0), Vl 13 (Ix b 2), fun _ => True]) [[], [], [1], [1, 2], [1, 2, 3], [], [5], [], [], [5, 6, 7, 8], [5, 6, 7, 8, 9], [1, 2, 3, 4, 5, 6, 7, 8, 9, 10], (rg 12), (rg 13), (rg 14)] [6, 10, 11, 14] [(0, 3), (0, 2), (0, 2), (0, 2), (0, 2), (0, 0), (0, 0), (0, 1), (0, 1), (1, 1), (1, 1), (2, 2), (3, 3), (3, 3), (3, 3)] I ⟨?_, ?_, ?_, ?_, ?_, ?_, ?_, ?_, ?_, ?_, ?_, ?_, ?_, ?_, ?_, trivial⟩ ?_ (hlocA := yZ ⟨dA, dA, dA, dA, dA, dA, dT, dA, dA, fun vals p x h => fun g E => (x 9 (.inl rfl)).trans (h g ((x 6 (.inr dc)).symm.trans E)), dT, dT, dA, dA, dT, trivial⟩)
 exact fun _ _ _ _ _ _ _ => obl rfl (zb (v := Ix b 0) rfl dR)
 exact fun _ _ _ _ _ _ _ => obl rfl (zb (v := Ix b 0) rfl dR)
 exact fun _ _ _ _ _ _ ap => obl rfl (zH (b := b) (o := 0) (ap 1 dc) dR)
 exact fun _ _ _ _ _ _ aq => obl rfl (XQ (aq 2 dc) dR)
 refine fun K _ _ bx bz O P => ?_
 have hkk : K = 0 ∨ K = 1 ∨ K = 2 := by have h1 : 0 ≤ K := bx; have h2 : K ≤ 2 := bz; omega
 rcases hkk with rfl | rfl | rfl
 have ar : Sep _ _ _ _ := O
 exact obl rfl (zg (v := u) Tryd.isAgg66 (P 3 dc) (zh (ar.blk (i := 0) rfl) rfl) dR)
 obtain ⟨g, m, au⟩ := O
 exact obl rfl (zg (v := u) Tryd.isAgg66 (P 3 dc) (zh (au.blk (i := 1) rfl) rfl) dR)
 obtain ⟨g, l, m, q, av⟩ := O
 exact obl rfl (zg (v := u) Tryd.isAgg66 (P 3 dc) (zh (av.blk (i := 2) rfl) rfl) dR)
 exact ob1 0 fun _ _ (aw : Sep _ _ _ _) _ => obl rfl (zl (k := 10) Tryd.isAgg59 Tryd.sizeOf59 rfl rfl (CellsAt.all (aw.blk (i := 8) rfl)) dR)
 refine ob1 0 fun vals _ (bA : Sep _ _ _ _) bB => (obl rfl ((zu (f := 60) (vals := [.agg (e.cells de0).toArray]) (cap := []) rfl (yP ⟨(bB 5 dc), trivial⟩) Tryd.call60 (YD (e := e) hde0 oe bA) ?_)))
 rintro _ w84 ⟨g, rfl, aj⟩
 have bC := aj.row (i := 0) rfl
 have hr86s : _ * 8 ≤ _ := bC.2
 exact fun p x n => ⟨(Exists.intro g (And.intro x aj)), trivial⟩
 exact fun _ _ _ _ _ _ _ => obl rfl (zb (v := .bool ((zK d L e).1)) rfl dR)
 refine fun Q _ _ bD bE X _ => ?_
 have hkk : Q = 0 ∨ Q = 1 := by have h1 : 0 ≤ Q := bD; have h2 : Q ≤ 1 := bE; omega
 rcases hkk with rfl | rfl
 have ax : Sep _ _ _ _ := X
 exact obl rfl (zl (k := 2) Tryd.isAgg57 Tryd.sizeOf57 rfl rfl (CellsAt.all (ax.blk (i := 6) rfl)) dR)
 obtain ⟨g, m, ay⟩ := X
 exact obl rfl (zl (k := 2) Tryd.isAgg57 Tryd.sizeOf57 rfl rfl (CellsAt.all (ay.blk (i := 7) rfl)) dR)
 refine ob1 1 fun _ _ az Y => ?_
 obtain ⟨g, m, hS231⟩ := az
 refine obl rfl (zQ (parts' := [(0, .agg (e.cells g).toArray), (1, .bool ((zK d L e).1)), (2, .agg #[Iv ((zK d L e).2.1), Iv ((zK d L e).2.2)])]) (v := .agg ((zS d L e).cells g).toArray) (xF ⟨rfl, m, rfl, (Y 7 (by decide)), rfl, (Y 8 (by decide)), trivial⟩) (by simp [Instr.build, Instr.fill, go_sem, Ent.cells, Ev.cells, zS]) (fun p x n => ⟨rfl, ?_⟩))
 intro v83q E
 rw [n 6 (by decide)] at E; cases m.symm.trans E
 exact x
 refine ob1 1 fun vals _ aA aB => ?_
 obtain ⟨g, m, aC⟩ := aA
 have bF : vals 9 = (.agg ((zS d L e).cells g).toArray : Value) := aB 9 dc g m
 refine obl rfl ((zD (k := 13) (parts' := [(0, .agg ((zS d L e).cells g).toArray)]) (c := ((zS d L e).cells g).toArray) Tryd.underlying66 Tryd.sizeOf62 Tryd.zeroValue62 dc (xF ⟨rfl, bF, trivial⟩) kr ?_))
 intro w120 l aD
 have aE := aC.new aD
 exact fun p x n => ⟨(Exists.intro g (Exists.intro l (And.intro ((n 6 dc).trans m) (And.intro x aE)))), trivial⟩
 refine ob1 2 fun _ _ aF aG => ?_
 obtain ⟨g, l, m, q, Z⟩ := aF
 refine obl rfl ?_
 have ak := Z.blk (i := 0) rfl
 have aH := Z.s11_fbcdeghijk
 refine (yp (src := own) (bytes := 120) (x1 := (zS d L e)) aH QR (aG 4 (by decide)) q ak (fun _ _ hN => ⟨_, rfl, RowE.soft hN, hek⟩) (by first | omega | (simp only [List.length_append, List.length_cons, List.length_nil, List.length_take, List.length_drop]; omega)) rfl ?_)
 intro j w131 aa
 have aI := aa.row (i := 0) rfl
 have hr136s : _ * 120 ≤ _ := aI.2
 exact fun p x n => ⟨(Exists.intro g (Exists.intro l (Exists.intro j (And.intro ((n 6 dc).trans m) (And.intro ((n 10 dc).trans q) (And.intro x aa)))))), trivial⟩
 refine ob1 3 fun _ _ aJ aK => ?_
 obtain ⟨g, l, j, m, q, F, hS240⟩ := aJ
 exact obl rfl (zH (b := b) (o := 0) (aK 0 dc) dR)
 refine ob1 3 fun _ _ aL aM => ?_
 obtain ⟨g, l, j, m, q, F, hS248⟩ := aL
 exact obl rfl (XQ (aM 12 dc) dR)
 refine ob1 3 fun _ _ aN aO => ?_
 obtain ⟨g, l, j, m, q, F, R⟩ := aN
 refine obl rfl ?_
 have ab := R.row (i := 0) rfl
 have hr164s : _ * 120 ≤ _ := ab.2
 refine (yv (v := j) (c := [s, t, u, .map (some A), .map (some B)]) (c' := [s, t, j, .map (some A), .map (some B)]) Tryd.sizeOf66 (aO 13 dc) F (R.blk (i := 1) rfl) ab.1.one rfl rfl ?_)
 intro w162 aP
 have aQ := R.pt1 aP
 exact fun p x n => ⟨(Exists.intro g (Exists.intro l (Exists.intro j (And.intro ((n 6 dc).trans m) (And.intro ((n 10 dc).trans q) (And.intro ((n 11 dc).trans F) aQ)))))), trivial⟩
 intro vals w250 aR hA252
 obtain ⟨g, l, j, m, q, F, aS⟩ := aR
 refine yf (kv := [(0, Ix b 0), (1, .agg (e.cells de0).toArray), (3, Ix b2 0), (4, Ix U 0), (8, Ix b 0), (9, .agg (e.cells de0).toArray), (10, .agg (e.cells v9).toArray), (11, .tuple #[.bool ((zK d L e).1), .agg #[Iv ((zK d L e).2.1), Iv ((zK d L e).2.2)]]), (7, .tuple #[.bool ((zK d L e).1), .agg #[Iv ((zK d L e).2.1), Iv ((zK d L e).2.2)]]), (12, .bool ((zK d L e).1)), (13, .agg #[Iv ((zK d L e).2.1), Iv ((zK d L e).2.2)]), (6, Ix N 0), (5, .bool ((zK d L e).1))]) ⟨rfl, rfl, rfl, rfl, rfl, rfl, rfl, rfl, rfl, rfl, rfl, rfl, rfl, trivial⟩ (fun ρw250 => (zf (zd ?_)))
 refine WD4 ((fun TT H C D J al am an bj => WF [fun vals z => Sep G W (H :: C :: D :: J :: al :: am :: an :: bj :: TT) z, fun vals z => ∃ (a : Value), (vals 1 = (.agg (e.cells a).toArray : Value)) ∧ Sep G W ((RwI a e.deps) :: H :: C :: D :: J :: al :: am :: an :: bj :: TT) z, fun vals z => ∃ (a : Value), (vals 1 = (.agg (e.cells a).toArray : Value)) ∧ Sep G W ((RwI a e.deps) :: H :: C :: D :: J :: al :: am :: an :: (Blk U ((zS d L e).cells a).toArray 62) :: TT) z]) ((Blk b2 (e.cells de0).toArray 59) :: Rs) (RwN j (L ++ [(zS d L e)])) (BkV b s t j A B) (RwT s d.types) (RwP t d.projs) (yw yR E1 A (zp d (L ++ [zS d L e]))) (yw xd E2 B (yu (L ++ [zS d L e]))) (Blk N #[Iv ((zK d L e).2.1), Iv ((zK d L e).2.2)] 57) (Blk U #[Iv 0, Iv 0, Iv 0, (Iz), Iv 0, Iv 0, Iv 0, Iv 0, Iv 0, Iv 0, .bool false, Iv 0, Iv 0] 62)) (AF [Vl 0 (.agg (e.cells de0).toArray), fun _ => True, Vl 2 (.bool ((zK d L e).1)), Vl 3 (.agg #[Iv ((zK d L e).2.1), Iv ((zK d L e).2.2)]), fun vals => ∀ (a : Value), vals 1 = (.agg (e.cells a).toArray : Value) → vals 4 = (.agg ((zS d L e).cells a).toArray : Value), fun _ => True]) [[], [0], [], [], (rg 4), (rg 5)] [1, 5] [(0, 0), (0, 0), (0, 1), (0, 1), (1, 1), (1, 1)] aS ⟨?_, ?_, ?_, ?_, ?_, ?_, trivial⟩ ?_ (hlocA := yZ ⟨dA, dT, dA, dA, fun vals p x h => fun a E => (x 4 (.inl rfl)).trans (h a ((x 1 (.inr dc)).symm.trans E)), dT, trivial⟩)
 exact ob1 0 fun _ _ (aT : Sep _ _ _ _) _ => obl rfl (zl (k := 10) Tryd.isAgg59 Tryd.sizeOf59 rfl rfl (CellsAt.all (aT.blk (i := 8) rfl)) dR)
 refine ob1 0 fun vals _ (aU : Sep _ _ _ _) aV => (obl rfl ((zu (f := 60) (vals := [.agg (e.cells de0).toArray]) (cap := []) rfl (yP ⟨(aV 0 dc), trivial⟩) Tryd.call60 (YD (e := e) hde0 oe aU) ?_)))
 rintro _ w270 ⟨a, rfl, ac⟩
 have aW := ac.row (i := 0) rfl
 have hr272s : _ * 8 ≤ _ := aW.2
 exact fun p x n => ⟨(Exists.intro a (And.intro x ac)), trivial⟩
 exact fun _ _ _ _ _ _ _ => obl rfl (zb (v := .bool ((zK d L e).1)) rfl dR)
 refine fun S _ _ bG bH ad _ => ?_
 have hkk : S = 0 ∨ S = 1 := by have h1 : 0 ≤ S := bG; have h2 : S ≤ 1 := bH; omega
 rcases hkk with rfl | rfl
 have aX : Sep _ _ _ _ := ad
 exact obl rfl (zl (k := 2) Tryd.isAgg57 Tryd.sizeOf57 rfl rfl (CellsAt.all (aX.blk (i := 6) rfl)) dR)
 obtain ⟨a, y, aY⟩ := ad
 exact obl rfl (zl (k := 2) Tryd.isAgg57 Tryd.sizeOf57 rfl rfl (CellsAt.all (aY.blk (i := 7) rfl)) dR)
 refine ob1 1 fun _ _ aZ ae => ?_
 obtain ⟨a, y, hS335⟩ := aZ
 refine obl rfl (zQ (parts' := [(0, .agg (e.cells a).toArray), (1, .bool ((zK d L e).1)), (2, .agg #[Iv ((zK d L e).2.1), Iv ((zK d L e).2.2)])]) (v := .agg ((zS d L e).cells a).toArray) (xF ⟨rfl, y, rfl, (ae 2 (by decide)), rfl, (ae 3 (by decide)), trivial⟩) (by simp [Instr.build, Instr.fill, go_sem, Ent.cells, Ev.cells, zS]) (fun p x n => ⟨rfl, ?_⟩))
 intro v269q E
 rw [n 1 (by decide)] at E; cases y.symm.trans E
 exact x
 refine ob1 1 fun vals _ ba bb => ?_
 obtain ⟨a, y, T⟩ := ba
 have bI : vals 4 = (.agg ((zS d L e).cells a).toArray : Value) := bb 4 dc a y
 refine obl rfl ?_
 have af := T.row (i := 0) rfl
 have hr306s : _ * 8 ≤ _ := af.2
 refine (zy (v := .agg ((zS d L e).cells a).toArray) (c' := ((zS d L e).cells a).toArray) Tryd.sizeOf62 rfl bI (T.blk (i := 8) rfl) (ya ⟨rfl, rfl, rfl, af.1.one, rfl, rfl, rfl, rfl, rfl, rfl, rfl, rfl, rfl, trivial⟩) (Nat.le_of_ble_eq_true rfl) rfl ?_)
 intro w304 bc
 have bd := T.pt8 bc
 exact fun p x n => ⟨(Exists.intro a (And.intro ((n 1 dc).trans y) bd)), trivial⟩
 intro vals ao be hA340
 obtain ⟨a, y, ag⟩ := be
 refine yf (kv := [(0, Ix b 0), (1, .agg (e.cells de0).toArray), (3, Ix b2 0), (4, Ix U 0), (8, Ix b 0), (9, .agg (e.cells de0).toArray), (10, .agg (e.cells v9).toArray), (11, .tuple #[.bool ((zK d L e).1), .agg #[Iv ((zK d L e).2.1), Iv ((zK d L e).2.2)]]), (7, .tuple #[.bool ((zK d L e).1), .agg #[Iv ((zK d L e).2.1), Iv ((zK d L e).2.2)]]), (12, .bool ((zK d L e).1)), (13, .agg #[Iv ((zK d L e).2.1), Iv ((zK d L e).2.2)]), (6, Ix N 0), (5, .bool ((zK d L e).1))]) ⟨rfl, rfl, rfl, rfl, rfl, rfl, rfl, rfl, rfl, rfl, rfl, rfl, rfl, trivial⟩ (fun ρw338 => (zf (zt (Xt (b := U) Tryd.results28 Tryd.isAgg62 Tryd.sizeOf62 rfl rfl (CellsAt.all (ag.blk (i := 8) rfl)) ?_))))
 have bf := ag.s10_cdebfgahij
 have bg : Sep G W ((ViewO b d (L ++ [zS d L e]) (L ++ [zS d L e])) :: (RwI a e.deps) :: (Blk N #[Iv ((zK d L e).2.1), Iv ((zK d L e).2.2)] 57) :: (Blk U ((zS d L e).cells a).toArray 62) :: (Blk b2 (e.cells de0).toArray 59) :: Rs) ao := ViewO.close (d := d) (L := (L ++ [zS d L e])) (M := (L ++ [zS d L e])) bf
 have bh : Sep G W ((ViewO b d (L ++ [zS d L e]) (L ++ [zS d L e])) :: (RwI a e.deps) :: Rs) ao := bg.sel 5 [0, 1] (Nat.le_add_left _ _) rfl rfl
 refine ⟨a, rfl, bh⟩

theorem Yb {G : Nat → Prop} {W w : World} {Rs : List HP} {b : Nat} {d : Dcl} {L : List Ent} {ty : Int} (hty : InR ty) {no : Int} (hno : InR no) (hS0 : Sep G W ((ViewO b d L L) :: Rs) w) : Ret Tryd.prog 32 [.pointer (some ⟨b, 0, none⟩), .int .i64 (ty), .int .i64 (no)] w (fun r w' => ∃ (v : Value), r = (.tuple #[.agg ((yb d (ty, no) L).cells v).toArray, .bool ((zp d L (ty, no)).isSome)] : Value) ∧ Sep G W ((ViewO b d L L) :: (RowE (α := Cel) own 42 v (stL d (ty, no) L)) :: Rs) w') := by
 refine zr (args := [Ix b 0, Iv ty, Iv no]) Tryd.func32 rfl rfl ?_
 refine zd (za kr (fun _ => (st (zB Tryd.zeroValue68 ?_))))
 intro w3 b2 af
 have ag := hS0.new af
 refine st (ze (v := .bool false) rfl (zf (zd (za kr (fun _ => ?_)))))
 have ah := ag.mv1
 obtain ⟨e, g, h, n, j, E⟩ := ViewO.open ah
 have l : Sep G W ((Blk b #[e, g, h, .map (some n), .map (some j)] 111) :: (RowE (α := Typ) own 33 e d.types) :: (RowE (α := Prj) own 107 g d.projs) :: (RowE (α := Ent) own 62 h L) :: (yw yR E1 n (zp d L)) :: (yw xd E2 j (yu L)) :: (Blk b2 #[Iv 0, (Iz)] 68) :: Rs) w3 := E
 have F := l.row (i := 1) rfl
 have hr12s : _ * 24 ≤ _ := F.2
 have H := l.row (i := 2) rfl
 have hr13s : _ * 40 ≤ _ := H.2
 have I := l.row (i := 3) rfl
 have hr14s : _ * 120 ≤ _ := I.2
 have J := l.mv4
 obtain ⟨vs16, D, K⟩ := J.mapoTake XI (ty, no)
 have N := K.mv1
 obtain ⟨a, rfl, O⟩ := XN N D
 have m : Sep G W ((RowE (α := Cel) own 42 a (stL d (ty, no) L)) :: (xV yR E1 XI n (zp d L) (ty, no) (.agg #[Iw (zZ (ty, no) L), a])) :: (Blk b #[e, g, h, .map (some n), .map (some j)] 111) :: (RowE (α := Typ) own 33 e d.types) :: (RowE (α := Prj) own 107 g d.projs) :: (RowE (α := Ent) own 62 h L) :: (yw xd E2 j (yu L)) :: (Blk b2 #[Iv 0, (Iz)] 68) :: Rs) w3 := O
 have q := m.row (i := 0) rfl
 have hr22s : _ * 32 ≤ _ := q.2
 have hve9 := YK (ty, no) L
 refine st (zb (v := Ix b 0) rfl (st (zH (b := b) (o := 0) rfl (st (Wi rfl (st (zg (v := .map (some n)) Tryd.isAgg108 rfl (zh (m.blk (i := 2) rfl) rfl) (st (zb (v := Iv ty) rfl (st (zb (v := Iv no) rfl (st (zQ (parts' := [(0, Iv ty), (1, Iv no)]) (v := .agg #[Iv ty, Iv no]) rfl (by simp [Instr.build, Instr.fill, Ev.cells, go_sem, Mv.cells, Fld.cells, Typ.cells, Prj.cells, Dcl.cells, Cel.cells, AskR.cells, Ask.cells, CelS.cells, Ev.cells, Ent.cells, Sta.cells]) (st (Zv m (i := 1) rfl K2 Tryd.underlying108 Tryd.zeroValue68 rfl rfl (st (zb (v := .tuple #[.agg #[Iw (zZ (ty, no) L), a], .bool (((zp d L) (ty, no)).isSome)]) rfl (st (zE (vs := [.agg #[Iw (zZ (ty, no) L), a], .bool (((zp d L) (ty, no)).isSome)]) (i := 0) (v := .agg #[Iw (zZ (ty, no) L), a]) rfl rfl ?_)))))))))))))))))))
 refine st (zE (vs := [.agg #[Iw (zZ (ty, no) L), a], .bool (((zp d L) (ty, no)).isSome)]) (i := 1) (v := .bool (((zp d L) (ty, no)).isSome)) rfl rfl (st (zB Tryd.zeroValue68 ?_)))
 intro w25 s P
 have t := m.new P
 refine stn (zy (v := .agg #[Iw (zZ (ty, no) L), a]) (c' := #[Iw (zZ (ty, no) L), a]) Tryd.sizeOf68 rfl rfl (t.blk (i := 0) rfl) (ya ⟨rfl, q.1.one, trivial⟩) (Nat.le_of_ble_eq_true rfl) rfl ?_)
 intro w27 Q
 have R : Sta.Ok (⟨((zZ (ty, no) L : Nat) : Int), stL d (ty, no) L⟩ : Sta) := ⟨(show InR (((zZ (ty, no) L : Nat) : Int)) from om)⟩
 have u := t.pt0 Q
 refine st (ze (v := .bool (((zp d L) (ty, no)).isSome)) rfl (zf (zd (za kr (fun _ => (st (zl (k := 2) Tryd.isAgg68 Tryd.sizeOf68 rfl rfl (CellsAt.all (u.blk (i := 0) rfl)) ?_)))))))
 have S := u.mv1
 obtain ⟨G32, T, hB35, U, V⟩ := S.lend
 have p := RowE.rd T
 have hrd38s : _ * 32 ≤ _ := p.small
 refine st (zu (f := 63) (vals := [.agg ((⟨((zZ (ty, no) L : Nat) : Int), stL d (ty, no) L⟩ : Sta).cells a).toArray]) (cap := []) rfl rfl Tryd.call63 (UE (x := (⟨((zZ (ty, no) L : Nat) : Int), stL d (ty, no) L⟩ : Sta)) p R U) ?_)
 rintro _ w40 ⟨c, rfl, y⟩
 have z := y.row (i := 0) rfl
 have hr42s : _ * 32 ≤ _ := z.2
 have A := V _ _ y
 refine st (zb (v := .bool (((zp d L) (ty, no)).isSome)) rfl (stn (zy (v := .agg ((⟨((zZ (ty, no) L : Nat) : Int), stL d (ty, no) L⟩ : Sta).cells c).toArray) (c' := ((⟨((zZ (ty, no) L : Nat) : Int), stL d (ty, no) L⟩ : Sta).cells c).toArray) Tryd.sizeOf68 rfl rfl (A.blk (i := 9) rfl) (ya ⟨rfl, z.1.one, trivial⟩) (Nat.le_of_ble_eq_true rfl) rfl ?_)))
 intro B X
 have C := A.pt9 X
 refine st (ze (v := .bool (((zp d L) (ty, no)).isSome)) rfl (zf (zt (Zt (b := b2) Tryd.results32 Tryd.isAgg68 Tryd.sizeOf68 rfl rfl (CellsAt.all (C.blk (i := 9) rfl)) (show _ = (.bool (((zp d L) (ty, no)).isSome) : Value) from rfl) ?_))))
 have Y : Sep G W ((Yp E1 (.agg #[Iw (zZ (ty, no) L), a]) ((zp d L) (ty, no))) :: (RowE (α := Cel) own 42 c ((⟨((zZ (ty, no) L : Nat) : Int), stL d (ty, no) L⟩ : Sta).cls)) :: (Blk s ((⟨((zZ (ty, no) L : Nat) : Int), stL d (ty, no) L⟩ : Sta).cells a).toArray 68) :: (xV yR E1 XI n (zp d L) (ty, no) (.agg #[Iw (zZ (ty, no) L), a])) :: (Blk b #[e, g, h, .map (some n), .map (some j)] 111) :: (RowE (α := Typ) own 33 e d.types) :: (RowE (α := Prj) own 107 g d.projs) :: (RowE (α := Ent) own 62 h L) :: (yw xd E2 j (yu L)) :: (Blk b2 ((⟨((zZ (ty, no) L : Nat) : Int), stL d (ty, no) L⟩ : Sta).cells c).toArray 68) :: Rs) B := VC C
 have Z := Y.mv3
 have aa : Sep G W ((yw yR E1 n (zp d L)) :: (RowE (α := Cel) own 42 c ((⟨((zZ (ty, no) L : Nat) : Int), stL d (ty, no) L⟩ : Sta).cls)) :: (Blk s ((⟨((zZ (ty, no) L : Nat) : Int), stL d (ty, no) L⟩ : Sta).cells a).toArray 68) :: (Blk b #[e, g, h, .map (some n), .map (some j)] 111) :: (RowE (α := Typ) own 33 e d.types) :: (RowE (α := Prj) own 107 g d.projs) :: (RowE (α := Ent) own 62 h L) :: (yw xd E2 j (yu L)) :: (Blk b2 ((⟨((zZ (ty, no) L : Nat) : Int), stL d (ty, no) L⟩ : Sta).cells c).toArray 68) :: Rs) B := Z.mapoPut
 have ab := aa.s9_defgahbci
 have ac : Sep G W ((ViewO b d L L) :: (RowE (α := Cel) own 42 c ((⟨((zZ (ty, no) L : Nat) : Int), stL d (ty, no) L⟩ : Sta).cls)) :: (Blk s ((⟨((zZ (ty, no) L : Nat) : Int), stL d (ty, no) L⟩ : Sta).cells a).toArray 68) :: (Blk b2 ((⟨((zZ (ty, no) L : Nat) : Int), stL d (ty, no) L⟩ : Sta).cells c).toArray 68) :: Rs) B := ViewO.close (d := d) (L := L) (M := L) ab
 have ad := ac.s4_ab
 refine ⟨c, rfl, ad⟩

theorem Za {d : Option Tmp} {ty : TypeId} {pos : String} {af : Array Edge} {g : Option (Nat × Bool)} {σ : Env} {w : World} {K : Value → World → Prop} {x : Operand} {b o : Nat} (hx : ev σ x = .pointer (some ⟨b, o, none⟩)) (h : K (.pointer (some ⟨b, o + 0, none⟩)) w) : opV Tryd.prog ⟨d, .fieldAddr 62 x 0, ty, pos, af, g⟩ σ w K := zA Tryd.underlying62 rfl rfl (fun w => ⟨9, Tryd.sizeOf59 w⟩) hx h
theorem Zb {G : Nat → Prop} {W w : World} {Rs : List HP} {b : Nat} {d : Dcl} {L : List Ent} (hS0 : Sep G W ((ViewO b d L L) :: Rs) w) : Ret Tryd.prog 36 [.pointer (some ⟨b, 0, none⟩)] w (fun r w' => ∃ (v : Value), r = (v : Value) ∧ Sep G W ((ViewO b d L L) :: (RowE (α := Ent) own 62 v L) :: Rs) w') := by
 refine zr (args := [Ix b 0]) Tryd.func36 rfl rfl ?_
 refine zd (za kr (fun _ => (st (ze (v := (Iz)) rfl (zf (zd ?_))))))
 obtain ⟨m, p, g, D, E, ag⟩ := ViewO.open hS0
 have s : Sep G W ((Blk b #[m, p, g, .map (some D), .map (some E)] 111) :: (RowE (α := Typ) own 33 m d.types) :: (RowE (α := Prj) own 107 p d.projs) :: (RowE (α := Ent) own 62 g L) :: (yw yR E1 D (zp d L)) :: (yw xd E2 E (yu L)) :: Rs) w := ag
 have ah := s.row (i := 1) rfl
 have hr7s : _ * 24 ≤ _ := ah.2
 have ai := s.row (i := 2) rfl
 have hr8s : _ * 40 ≤ _ := ai.2
 have aj := s.row (i := 3) rfl
 have hr9s : _ * 120 ≤ _ := aj.2
 have S := s.mv3
 obtain ⟨F, T, hB14, H, U⟩ := S.lend
 have B := RowE.rd T
 have hrd17s : _ * 120 ≤ _ := B.small
 refine za kr (fun _ => (st (zb (v := Ix b 0) rfl (st (zH (b := b) (o := 0) rfl (st (XQ rfl (st (zg (v := g) Tryd.isAgg66 rfl (zh (H.blk (i := 0) rfl) rfl) (st (zu (f := 65) (vals := [g]) (cap := []) rfl rfl Tryd.call65 (Va (l := L) (vl := g) B H) ?_)))))))))))
 rintro c w19 ⟨_, rfl, I⟩
 have J := I.row (i := 0) rfl
 have hr21s : _ * 120 ≤ _ := J.2
 refine st (ze (v := c) rfl (zf (zd (zd (za kr (fun _ => (st (zb (v := c) rfl (st (zJ (n := L.length) Tryd.underlying66 rfl J.1 (st (zb (v := Iv 0) rfl (zf (zw ?_))))))))))))))
 have V := I.toMix
 refine yd (fun mq σ wq => ∃ (k : Nat) (ρ : Env), mq = L.length - k ∧ σ = yh ρ [(0, Ix b 0), (2, (Iz)), (3, c), (11, Iw L.length), (12, Iw k)] ∧ (k ≤ L.length) ∧ Sep F w ((RowE (α := Bool × Ent) (mix (α := Ent) F w) 62 c (xO k L)) :: (Blk b #[m, p, g, .map (some D), .map (some E)] 111) :: (RowE (α := Typ) own 33 m d.types) :: (RowE (α := Prj) own 107 p d.projs) :: (yw yR E1 D (zp d L)) :: (yw xd E2 E (yu L)) :: Rs) wq) ⟨0, _, rfl, zq ⟨rfl, rfl, rfl, rfl, rfl, trivial⟩, Nat.zero_le _, V⟩ ?_
 rintro m24 σ25 Q ⟨k, ρl1, rfl, rfl, hkk, t⟩
 have z := t.row (i := 0) rfl
 rw [xw] at z
 refine zd (za kr (fun _ => (st (zL (k := .i64) (a := ((k : Nat) : Int)) (b := ((L.length : Nat) : Int)) rfl rfl (zf (zd ?_))))))
 cases x : decide (((k : Nat) : Int) < ((L.length : Nat) : Int))
 have x := fD x
 have K : Sep F w ((RowE (α := Ent) own 62 c L) :: (Blk b #[m, p, g, .map (some D), .map (some E)] 111) :: (RowE (α := Typ) own 33 m d.types) :: (RowE (α := Prj) own 107 p d.projs) :: (yw yR E1 D (zp d L)) :: (yw xd E2 E (yu L)) :: Rs) Q := t.ofMix om
 have X := K.row (i := 0) rfl
 have hr30s : _ * 120 ≤ _ := X.2
 refine zn rfl (yc (zU (zd (za kr (fun _ => (st (zb (v := c) rfl (st (ze (v := c) rfl (zf (zt (zO Tryd.results36 (show _ = (c : Value) from rfl) ?_))))))))))))
 have Y := U _ _ K
 have Z := Y.s7_cdeafgb
 have aa : Sep G W ((ViewO b d L L) :: (RowE (α := Ent) own 62 c L) :: Rs) Q := ViewO.close (d := d) (L := L) (M := L) Z
 refine ⟨c, rfl, aa⟩
 have x := tD x
 refine zo rfl (zv (zd (zw (zd (za kr (fun _ => (st (zb (v := Iw k) rfl (st (ze (v := Iw k) rfl (zf (za kr (fun _ => (st (zb (v := c) rfl (st (zb (v := Iw k) rfl (st (zb (v := c) rfl (st (zb (v := Iw k) rfl ?_)))))))))))))))))))))
 have ab : k < L.length := bo
 refine st (zk (k := 13) (i := k) Tryd.underlying66 Tryd.sizeOf62 rfl z.1 rfl ab (st (Za rfl ?_)))
 have N : k < L.length := bo
 obtain ⟨_, C, h, rfl, q, y⟩ := t.mixAt (i := 0) (j := k) rfl (Nat.le_refl _) N
 rw [← zm default N] at C q y
 refine st (zl (k := 10) (cs := [Iv ((L.getD k default).ev.origin), Iv ((L.getD k default).ev.seq), Iv ((L.getD k default).ev.lam), h, Iv ((L.getD k default).ev.typ), Iv ((L.getD k default).ev.agg), Iv ((L.getD k default).ev.field), Iv ((L.getD k default).ev.op), Iv ((L.getD k default).ev.arg), Iv ((L.getD k default).ev.key)]) Tryd.isAgg59 Tryd.sizeOf59 rfl rfl (CellsAt.sub C 0 (cs2 := [Iv ((L.getD k default).ev.origin), Iv ((L.getD k default).ev.seq), Iv ((L.getD k default).ev.lam), h, Iv ((L.getD k default).ev.typ), Iv ((L.getD k default).ev.agg), Iv ((L.getD k default).ev.field), Iv ((L.getD k default).ev.op), Iv ((L.getD k default).ev.arg), Iv ((L.getD k default).ev.key)]) rfl) (st (zu (f := 60) (vals := [.agg (((L.getD k default).ev).cells h).toArray]) (cap := []) rfl rfl Tryd.call60 (YD (e := ((L.getD k default).ev)) q y.ev t) ?_)))
 rintro _ w38 ⟨R, rfl, O⟩
 have P := O.row (i := 0) rfl
 have hr40s : _ * 8 ≤ _ := P.2
 have ac : k < L.length := bo
 refine st (zk (k := 13) (i := k) Tryd.underlying66 Tryd.sizeOf62 rfl z.1 rfl ac (st (Za rfl ?_)))
 have ad := O.mv1
 have A : k < L.length := bo
 refine stn (Yq (α := Ent) (j := k) (o := 0) (u := .agg (((L.getD k default).ev).cells R).toArray) (us := ((L.getD k default).ev).cells R) ad Tryd.sizeOf59 A rfl rfl rfl (Nat.le_of_ble_eq_true rfl) (ya ⟨rfl, rfl, rfl, P.1.one, rfl, rfl, rfl, rfl, rfl, rfl, trivial⟩) (fun w f cs0 hr hN => (by obtain ⟨d, rfl, hd, hok⟩ := hr; rw [zm default A]; exact ⟨_, rfl, (by rw [← zm default A]; exact RowE.soft hN), hok⟩)) ?_)
 intro w42 ae
 refine zf (za kr (fun _ => ?_))
 have af : InR ((k + 1 : Nat) : Int) := bo
 refine st (zV (r := ((k + 1 : Nat) : Int)) (k := .i64) (a := ((k : Nat) : Int)) (b := 1) rfl rfl (by rw [show (((k : Nat) : Int) + 1 : Int) = ((k + 1 : Nat) : Int) from bo]; exact zM af) (st (zb (v := Iw (k + 1)) rfl (zf ?_))))
 exact ⟨_, by omega, k + 1, _, rfl, zq ⟨rfl, rfl, rfl, rfl, rfl, trivial⟩, by omega, ae⟩

theorem UM {G : Nat → Prop} {W w : World} {Rs : List HP} {d : Dcl} {dd0 : Value} (hdd0 : RdS W G dd0 d.types) {dd1 : Value} (hdd1 : RdS W G dd1 d.projs) (od : d.Ok) {vl : Value} {l : List Ev} (hl : RdS W G vl l) (hKN : RdS W G (.slice (some ⟨0, 0, none⟩) 6 6) kindsL) (hS0 : Sep G W Rs w) (hd : DclOk d) (hfew : l.length ≤ 1000000) : Ret Tryd.prog 38 [.agg (d.cells dd0 dd1).toArray, vl] w (fun r w' => ∃ (b : Nat), r = (.pointer (some ⟨b, 0, none⟩) : Value) ∧ Sep G W ((ViewO b d (yn d l) (yn d l)) :: Rs) w') := by
 have hdd0s : _ * 24 ≤ _ := hdd0.small
 have hdd1s : _ * 40 ≤ _ := hdd1.small
 have hls : _ * 96 ≤ _ := hl.small
 have hKNs : _ * 8 ≤ _ := hKN.small
 refine zr (args := [.agg (d.cells dd0 dd1).toArray, vl]) Tryd.func38 rfl rfl ?_
 refine zd (za kr (fun _ => (st (zT (v := .agg (d.cells dd0 dd1).toArray) rfl ?_))))
 intro w3 b2 I
 have z := hS0.new I
 refine st (ze (v := .pointer none) rfl (zf (zd (za kr (fun _ => (st (zl (k := 2) Tryd.isAgg25 Tryd.sizeOf25 rfl rfl (CellsAt.all (z.blk (i := 0) rfl)) (st (zu (f := 24) (vals := [.agg (d.cells dd0 dd1).toArray]) (cap := []) rfl rfl Tryd.call24 (QD (d := d) hdd0 hdd1 od z) ?_)))))))))
 rintro _ w6 ⟨g, rfl, J⟩
 refine st (ze (v := Ix g 0) rfl (zf (zd (zd (za kr (fun _ => (st (zb (v := vl) rfl (st (zJ (n := l.length) Tryd.underlying47 rfl hl.sl (st (zb (v := Iv 0) rfl (zf (zw (yd (fun mq σ K => ∃ (k : Nat) (ρ : Env), mq = l.length - k ∧ σ = yh ρ [(2, Ix b2 0), (5, Ix g 0), (10, vl), (11, Iw l.length), (12, Iw k)] ∧ (k ≤ l.length) ∧ Sep G W ((ViewO g d (yn d (l.take k)) (yn d (l.take k))) :: (Blk b2 (d.cells dd0 dd1).toArray 25) :: Rs) K) ⟨0, _, rfl, zq ⟨rfl, rfl, rfl, rfl, rfl, trivial⟩, Nat.zero_le _, J⟩ ?_)))))))))))))))
 rintro m9 σ10 w8 ⟨k, ρl1, rfl, rfl, hkk, m⟩
 refine zd (za kr (fun _ => (st (zL (k := .i64) (a := ((k : Nat) : Int)) (b := ((l.length : Nat) : Int)) rfl rfl (zf (zd ?_))))))
 cases h : decide (((k : Nat) : Int) < ((l.length : Nat) : Int))
 have h := fD h
 refine zn rfl (yc (zU (zd (za kr (fun _ => (st (zb (v := Ix g 0) rfl (st (ze (v := Ix g 0) rfl (zf (zt (zO Tryd.results38 (show _ = (Ix g 0 : Value) from rfl) ?_))))))))))))
 have q := m.s2_a
 have hkn : k = l.length := by omega
 rw [hkn, List.take_length] at q
 refine ⟨g, rfl, q⟩
 have h := tD h
 refine zo rfl (zv (zd (zw (zd (za kr (fun _ => ?_))))))
 have A : k < l.length := bo
 refine st (zk (k := 10) (i := k) Tryd.underlying47 Tryd.sizeOf59 rfl hl.sl rfl A ?_)
 have o : k < l.length := bo
 obtain ⟨p, c, j⟩ := hl.ev o
 rw [← zm default o] at p c j
 have hsm17 : ((l.getD k default).deps).length * 8 ≤ 140737488355328 := c.small
 have y := m.cells p (hl.foot (ne_of_lt o))
 refine st (zl (k := 10) Tryd.isAgg59 Tryd.sizeOf59 rfl rfl y (st (zB Tryd.zeroValue59 ?_)))
 intro w21 b20 B
 have s := m.new B
 refine stn (zy (v := .agg ((l.getD k default).cells (zi W (sb vl) (so vl + k * 10 + 3))).toArray) (c' := ((l.getD k default).cells (zi W (sb vl) (so vl + k * 10 + 3))).toArray) Tryd.sizeOf59 rfl rfl (s.blk (i := 0) rfl) (ya ⟨rfl, rfl, rfl, c.sl.one, rfl, rfl, rfl, rfl, rfl, rfl, trivial⟩) (Nat.le_of_ble_eq_true rfl) rfl ?_)
 intro w23 C
 have t := s.pt0 C
 refine zf (za kr (fun _ => (st (zb (v := Ix g 0) rfl (st (zl (k := 10) Tryd.isAgg59 Tryd.sizeOf59 rfl rfl (CellsAt.all (t.blk (i := 0) rfl)) ?_))))))
 have D := t.mv1
 refine st (zu (f := 28) (vals := [Ix g 0, .agg ((l.getD k default).cells (zi W (sb vl) (so vl + k * 10 + 3))).toArray]) (cap := []) rfl rfl Tryd.call28 (Kx (e := (l.getD k default)) c j hKN D (hd) ((Inv.run hd _)) ((XS hfew))) ?_)
 rintro _ w28 ⟨v27, rfl, u⟩
 have E := u.row (i := 1) rfl
 have hr30s : _ * 8 ≤ _ := E.2
 refine zf (za kr (fun _ => ?_))
 have F : InR ((k + 1 : Nat) : Int) := bo
 refine st (zV (r := ((k + 1 : Nat) : Int)) (k := .i64) (a := ((k : Nat) : Int)) (b := 1) rfl rfl (by rw [show (((k : Nat) : Int) + 1 : Int) = ((k + 1 : Nat) : Int) from bo]; exact zM F) (st (zb (v := Iw (k + 1)) rfl (zf ?_))))
 have x := u.s4_ad
 have H : (yn d (l.take (k + 1))) = ((yn d (l.take k)) ++ [zS d (yn d (l.take k)) (l.getD k default)]) := (XD om)
 rw [← H] at x
 exact ⟨_, by omega, k + 1, _, rfl, zq ⟨rfl, rfl, rfl, rfl, rfl, trivial⟩, by omega, x⟩

end Go.Proofs.YtlblilbmpdejgaaDoor
