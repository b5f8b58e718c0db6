import Derived.Test.YtlblilbmpdejgaaDoorT10
import Derived.Test.YtlblilbmpdejgaaDoorT9
set_option linter.unusedSimpArgs false
set_option linter.unusedVariables false
set_option linter.unusedSectionVars false
set_option linter.deprecated false
/- Steps of the proofs of this seat: part F26. -/
set_option maxRecDepth 8000
set_option maxHeartbeats 4000000
namespace Go.Proofs.YtlblilbmpdejgaaDoor
open Go.Proofs Go.RowKit

def RefV (b : Nat) (d : Dcl) (L : List Ent) : HP := Ex1 fun vt => Ex1 fun vp => Ex1 fun ve => Star [Blk b #[vt, vp, ve] 113, RowE (α := Typ) own 33 vt d.types, RowE (α := Prj) own 107 vp d.projs, RowE (α := Ent) own 62 ve L]
section
variable {G : Nat → Prop} {W w : World} {As : List HP} {b : Nat} {d : Dcl} {L : List Ent}
theorem RefV.open (h : Sep G W (RefV b d L :: As) w) : ∃ vt vp ve, Sep G W (Blk b #[vt, vp, ve] 113 :: RowE (α := Typ) own 33 vt d.types :: RowE (α := Prj) own 107 vp d.projs :: RowE (α := Ent) own 62 ve L :: As) w := by
  obtain ⟨vt, h⟩ := h.openEx
  obtain ⟨vp, h⟩ := h.openEx
  obtain ⟨ve, h⟩ := h.openEx
  exact ⟨vt, vp, ve, h.openStar⟩
theorem RefV.close {vt vp ve : Value} (h : Sep G W (Blk b #[vt, vp, ve] 113 :: RowE (α := Typ) own 33 vt d.types :: RowE (α := Prj) own 107 vp d.projs :: RowE (α := Ent) own 62 ve L :: As) w) : Sep G W (RefV b d L :: As) w := by
  have h := Sep.closeStar (Bs := [Blk b #[vt, vp, ve] 113, RowE (α := Typ) own 33 vt d.types, RowE (α := Prj) own 107 vp d.projs, RowE (α := Ent) own 62 ve L]) h
  exact Sep.closeEx (A := fun vt => Ex1 fun vp => Ex1 fun ve => Star [Blk b #[vt, vp, ve] 113, RowE (α := Typ) own 33 vt d.types, RowE (α := Prj) own 107 vp d.projs, RowE (α := Ent) own 62 ve L]) vt (Sep.closeEx (A := fun vp => Ex1 fun ve => Star [Blk b #[vt, vp, ve] 113, RowE (α := Typ) own 33 vt d.types, RowE (α := Prj) own 107 vp d.projs, RowE (α := Ent) own 62 ve L]) vp (Sep.closeEx (A := fun ve => Star [Blk b #[vt, vp, ve] 113, RowE (α := Typ) own 33 vt d.types, RowE (α := Prj) own 107 vp d.projs, RowE (α := Ent) own 62 ve L]) ve h))
theorem RefV.sh (h : (RefV b d L).p W G) : ∃ vt vp ve, (Blk b #[vt, vp, ve] 113).p W G ∧ RdS W G vt d.types ∧ RdS W G vp d.projs ∧ RdS W G ve L := by
  obtain ⟨vt, vp, ve, h⟩ := h
  exact ⟨vt, vp, ve, Star.at_ h (i := 0) rfl, RowE.rd (T := 33) (Star.at_ h (i := 1) rfl), RowE.rd (T := 107) (Star.at_ h (i := 2) rfl), RowE.rd (T := 62) (Star.at_ h (i := 3) rfl)⟩
end

theorem xC {G : Nat → Prop} {W w : World} {Rs : List HP} {e : Ev} {de0 : Value} (hde0 : RdS W G de0 e.deps) (oe : e.Ok) (hS0 : Sep G W Rs w) : Ret Tryd.prog 27 [.agg (e.cells de0).toArray] w (fun r w' => ∃ (v : Value), r = (.agg (e.cells v).toArray : Value) ∧ Sep G W ((RowE (α := Int) own 3 v e.deps) :: Rs) w') := by
 have hde0s : _ * 8 ≤ _ := hde0.small
 refine zr (args := [.agg (e.cells de0).toArray]) Tryd.func27 rfl rfl ?_
 refine zd (za kr (fun _ => (st (zT (v := .agg (e.cells de0).toArray) rfl ?_))))
 intro w3 b2 q
 have s := hS0.new q
 refine st (zB Tryd.zeroValue59 ?_)
 intro w7 u t
 have m := s.new t
 refine zf (zd (za kr (fun _ => (st (xm rfl (st (zg (v := de0) Tryd.isAgg40 rfl (zh (m.blk (i := 1) rfl) rfl) (st (zu (f := 58) (vals := [de0]) (cap := []) rfl rfl Tryd.call58 (YR (l := e.deps) (vl := de0) hde0 m) ?_)))))))))
 rintro h w10 ⟨_, rfl, a⟩
 have d := a.row (i := 0) rfl
 have hr12s : _ * 8 ≤ _ := d.2
 refine st (xm rfl (stn (yv (v := h) (c := [Iv (e.origin), Iv (e.seq), Iv (e.lam), de0, Iv (e.typ), Iv (e.agg), Iv (e.field), Iv (e.op), Iv (e.arg), Iv (e.key)]) (c' := [Iv (e.origin), Iv (e.seq), Iv (e.lam), h, Iv (e.typ), Iv (e.agg), Iv (e.field), Iv (e.op), Iv (e.arg), Iv (e.key)]) Tryd.sizeOf40 rfl rfl (a.blk (i := 2) rfl) d.1.one rfl rfl ?_)))
 intro w13 n
 have ok15 : Ev.Ok e := ⟨(show InR (e.origin) from oe.origin), (show InR (e.seq) from oe.seq), (show InR (e.lam) from oe.lam), (show InR (e.typ) from oe.typ), (show InR (e.agg) from oe.agg), (show InR (e.field) from oe.field), (show InR (e.op) from oe.op), (show InR (e.arg) from oe.arg), (show InR (e.key) from oe.key)⟩
 have g := a.pt2 n
 refine zf (zd (za kr (fun _ => (st (zl (k := 10) Tryd.isAgg59 Tryd.sizeOf59 rfl rfl (CellsAt.all (g.blk (i := 2) rfl)) (stn (zy (v := .agg (e.cells h).toArray) (c' := (e.cells h).toArray) Tryd.sizeOf59 rfl rfl (g.blk (i := 1) rfl) (ya ⟨rfl, rfl, rfl, d.1.one, rfl, rfl, rfl, rfl, rfl, rfl, trivial⟩) (Nat.le_of_ble_eq_true rfl) rfl ?_)))))))
 intro w17 o
 have j := g.pt1 o
 refine zf (zt (Xt (b := u) Tryd.results27 Tryd.isAgg59 Tryd.sizeOf59 rfl rfl (CellsAt.all (j.blk (i := 1) rfl)) ?_))
 have p := j.s3_a
 refine ⟨h, rfl, p⟩

theorem Xq {G : Nat → Prop} {W w : World} {Rs : List HP} {vl : Value} {l : List Ent} (hl : RdS W G vl l) (hS0 : Sep G W Rs w) : Ret Tryd.prog 66 [vl] w (fun r w' => ∃ (v : Value), r = (v : Value) ∧ Sep G W ((RowE (α := Ent) own 62 v l) :: Rs) w') := by
 have hls : _ * 120 ≤ _ := hl.small
 refine zr (args := [vl]) Tryd.func66 rfl rfl ?_
 refine zd (za kr (fun _ => (st (ze (v := (Iz)) rfl (zf (zd (za kr (fun _ => (st (ze (v := (Iz)) rfl (zf (zd (zd (za kr (fun _ => (st (ze (v := Iv 0) rfl (zf (zw ?_)))))))))))))))))))
 have N : Sep G W ((RowE (α := Ent) own 62 (Iz) ([] : List Ent)) :: Rs) w := hS0.rowNil own 62
 refine yd (fun mq σ R => ∃ (k : Nat) (vo : Value) (ρ : Env), mq = l.length - k ∧ σ = yh ρ [(0, vl), (4, Iw k), (3, vo)] ∧ (k ≤ l.length) ∧ Sep G W ((RowE (α := Ent) own 62 vo (l.take k)) :: Rs) R) ⟨0, (Iz), _, rfl, zq ⟨rfl, rfl, rfl, trivial⟩, Nat.zero_le _, N⟩ ?_
 rintro m3 σ4 w2 ⟨k, vo, ρl1, rfl, rfl, hkk, h⟩
 have O := h.row (i := 0) rfl
 have hr6s : _ * 120 ≤ _ := O.2
 refine zd (zd (za kr (fun _ => (st (zb (v := Iw k) rfl (st (zb (v := vl) rfl (st (zJ (n := l.length) Tryd.underlying66 rfl hl.sl (st (zL (k := .i64) (a := ((k : Nat) : Int)) (b := ((l.length : Nat) : Int)) rfl rfl (zf ?_))))))))))))
 cases o : decide (((k : Nat) : Int) < ((l.length : Nat) : Int))
 have o := fD o
 have hkn : k = l.length := by omega
 rw [hkn, List.take_of_length_le (Nat.le_refl l.length)] at h
 have P := h.row (i := 0) rfl
 have hr8s : _ * 120 ≤ _ := P.2
 refine zn rfl (yc (zU (zd (za kr (fun _ => (st (zb (v := vo) rfl (st (ze (v := vo) rfl (zf (zt (zO Tryd.results66 (show _ = (vo : Value) from rfl) ?_))))))))))))
 refine ⟨vo, rfl, h⟩
 have o := tD o
 refine zo rfl (zv (zd (zw (zd (za kr (fun _ => (st (zb (v := vl) rfl (st (zb (v := Iw k) rfl ?_))))))))))
 have Q : k < l.length := bo
 refine st (zk (k := 13) (i := k) Tryd.underlying66 Tryd.sizeOf62 rfl hl.sl rfl Q ?_)
 have j : k < l.length := bo
 obtain ⟨p, d, g⟩ := hl.ent j
 rw [← zm default j] at p d g
 have hsm12 : ((l.getD k default).ev.deps).length * 8 ≤ 140737488355328 := d.small
 have B := h.cells p (hl.foot (ne_of_lt j))
 refine st (zl (k := 13) Tryd.isAgg62 Tryd.sizeOf62 rfl rfl B (st (zB Tryd.zeroValue62 ?_)))
 intro w16 b15 E
 have s := h.new E
 refine stn (zy (v := .agg ((l.getD k default).cells (zi W (sb vl) (so vl + k * 13 + 3))).toArray) (c' := ((l.getD k default).cells (zi W (sb vl) (so vl + k * 13 + 3))).toArray) Tryd.sizeOf62 rfl rfl (s.blk (i := 0) rfl) (ya ⟨rfl, rfl, rfl, d.sl.one, rfl, rfl, rfl, rfl, rfl, rfl, rfl, rfl, rfl, trivial⟩) (Nat.le_of_ble_eq_true rfl) rfl ?_)
 intro w18 F
 have t := s.pt0 F
 refine zf (zd (za kr (fun _ => (st (Za rfl (st (zl (k := 10) (cs := [Iv ((l.getD k default).ev.origin), Iv ((l.getD k default).ev.seq), Iv ((l.getD k default).ev.lam), (zi W (sb vl) (so vl + k * 13 + 3)), Iv ((l.getD k default).ev.typ), Iv ((l.getD k default).ev.agg), Iv ((l.getD k default).ev.field), Iv ((l.getD k default).ev.op), Iv ((l.getD k default).ev.arg), Iv ((l.getD k default).ev.key)]) Tryd.isAgg59 Tryd.sizeOf59 rfl rfl (CellsAt.sub (CellsAt.all (t.blk (i := 0) rfl)) 0 (cs2 := [Iv ((l.getD k default).ev.origin), Iv ((l.getD k default).ev.seq), Iv ((l.getD k default).ev.lam), (zi W (sb vl) (so vl + k * 13 + 3)), Iv ((l.getD k default).ev.typ), Iv ((l.getD k default).ev.agg), Iv ((l.getD k default).ev.field), Iv ((l.getD k default).ev.op), Iv ((l.getD k default).ev.arg), Iv ((l.getD k default).ev.key)]) rfl) ?_)))))))
 refine st (zu (f := 27) (vals := [.agg (((l.getD k default).ev).cells (zi W (sb vl) (so vl + k * 13 + 3))).toArray]) (cap := []) rfl rfl Tryd.call27 (xC (e := ((l.getD k default).ev)) d g.ev t) ?_)
 rintro _ w22 ⟨q, rfl, m⟩
 have u := m.row (i := 0) rfl
 have hr24s : _ * 8 ≤ _ := u.2
 refine st (Za rfl (stn (zy (v := .agg (((l.getD k default).ev).cells q).toArray) (c' := #[Iv (((l.getD k default).ev).origin), Iv (((l.getD k default).ev).seq), Iv (((l.getD k default).ev).lam), q, Iv (((l.getD k default).ev).typ), Iv (((l.getD k default).ev).agg), Iv (((l.getD k default).ev).field), Iv (((l.getD k default).ev).op), Iv (((l.getD k default).ev).arg), Iv (((l.getD k default).ev).key), .bool ((l.getD k default).void), Iv ((l.getD k default).byO), Iv ((l.getD k default).byS)]) Tryd.sizeOf59 rfl rfl (m.blk (i := 1) rfl) (ya ⟨rfl, rfl, rfl, u.1.one, rfl, rfl, rfl, rfl, rfl, rfl, trivial⟩) (Nat.le_of_ble_eq_true rfl) rfl ?_)))
 intro w25 H
 have x := m.pt1 H
 refine zf (za kr (fun _ => (st (zb (v := vo) rfl (st (zl (k := 13) Tryd.isAgg62 Tryd.sizeOf62 rfl rfl (CellsAt.all (x.blk (i := 1) rfl)) (st (zD (k := 13) (parts' := [(0, .agg ((l.getD k default).cells q).toArray)]) (c := ((l.getD k default).cells q).toArray) Tryd.underlying66 Tryd.sizeOf62 Tryd.zeroValue62 dc rfl kr ?_))))))))
 intro w30 b29 I
 have y := x.new I
 have C := y.blk (i := 0) rfl
 have J := y.s4_dbc
 refine st (yp (src := own) (bytes := 120) (x1 := (l.getD k default)) J QR rfl rfl C (fun _ _ S => ⟨_, rfl, RowE.soft S, g⟩) (by first | omega | (simp only [List.length_append, List.length_cons, List.length_nil, List.length_take, List.length_drop]; omega)) rfl ?_)
 intro D w32 z
 have K := z.row (i := 0) rfl
 have hr37s : _ * 120 ≤ _ := K.2
 refine st (ze (v := D) rfl (zf (za kr (fun _ => (st (zb (v := Iw k) rfl ?_))))))
 have L : InR ((k + 1 : Nat) : Int) := bo
 refine st (zV (r := ((k + 1 : Nat) : Int)) (k := .i64) (a := ((k : Nat) : Int)) (b := 1) rfl rfl (by rw [show (((k : Nat) : Int) + 1 : Int) = ((k + 1 : Nat) : Int) from bo]; exact zM L) (st (ze (v := Iw (k + 1)) rfl (zf ?_))))
 have A := z.s2_a
 have M : (l.take (k + 1)) = (l.take k) ++ [(l.getD k default)] := (List.take_getD om)
 rw [← M] at A
 exact ⟨_, by omega, k + 1, D, _, rfl, zq ⟨rfl, rfl, rfl, trivial⟩, by omega, A⟩

theorem Vc {G : Nat → Prop} {W w : World} {Rs : List HP} {d : Dcl} {dd0 : Value} (hdd0 : RdS W G dd0 d.types) {dd1 : Value} (hdd1 : RdS W G dd1 d.projs) (od : d.Ok) (hS0 : Sep G W Rs w) : Ret Tryd.prog 25 [.agg (d.cells dd0 dd1).toArray] w (fun r w' => ∃ (b : Nat), r = (.pointer (some ⟨b, 0, none⟩) : Value) ∧ Sep G W ((RefV b d ([] : List Ent)) :: Rs) w') := by
 have hdd0s : _ * 24 ≤ _ := hdd0.small
 have hdd1s : _ * 40 ≤ _ := hdd1.small
 refine zr (args := [.agg (d.cells dd0 dd1).toArray]) Tryd.func25 rfl rfl ?_
 refine zd (za kr (fun _ => (st (zT (v := .agg (d.cells dd0 dd1).toArray) rfl ?_))))
 intro w3 b2 u
 have h := hS0.new u
 refine st (ze (v := .pointer none) rfl (zf (zd (za kr (fun _ => (st (zl (k := 2) Tryd.isAgg25 Tryd.sizeOf25 rfl rfl (CellsAt.all (h.blk (i := 0) rfl)) (st (zu (f := 23) (vals := [.agg (d.cells dd0 dd1).toArray]) (cap := []) rfl rfl Tryd.call23 (Yr (d := d) hdd0 hdd1 od h) ?_)))))))))
 rintro _ w7 ⟨a, c, rfl, j⟩
 have x := j.row (i := 1) rfl
 have hr9s : _ * 40 ≤ _ := x.2
 refine st (zQ (parts' := [(0, .agg (d.cells a c).toArray)]) (v := .agg #[a, c, (Iz)]) rfl (by simp [Instr.build, Instr.fill, go_sem, Dcl.cells]) (st (zT (v := .agg #[a, c, (Iz)]) rfl ?_)))
 intro g e l
 have m := j.new l
 refine st (ze (v := Ix e 0) rfl (zf (zt (zO Tryd.results25 (show _ = (Ix e 0 : Value) from rfl) ?_))))
 have n := m.mv1
 have o : Sep G W ((RowE (α := Typ) own 33 a d.types) :: (Blk e #[a, c, (Iz)] 113) :: (RowE (α := Prj) own 107 c d.projs) :: (Blk b2 (d.cells dd0 dd1).toArray 25) :: Rs) g := TypW.row n
 have p : Sep G W ((RowE (α := Ent) own 62 (Iz) ([] : List Ent)) :: (RowE (α := Typ) own 33 a d.types) :: (Blk e #[a, c, (Iz)] 113) :: (RowE (α := Prj) own 107 c d.projs) :: (Blk b2 (d.cells dd0 dd1).toArray 25) :: Rs) g := o.rowNil own 62
 have q := p.s5_cbdae
 have s : Sep G W ((RefV e d ([] : List Ent)) :: (Blk b2 (d.cells dd0 dd1).toArray 25) :: Rs) g := RefV.close (d := d) (L := ([] : List Ent)) q
 have t := s.s2_a
 refine ⟨e, rfl, t⟩

theorem xI {d : Option Tmp} {ty : TypeId} {pos : String} {af : Array Edge} {g : Option (Nat × Bool)} {σ : Env} {w : World} {K : Value → World → Prop} {x : Operand} {b o : Nat} (hx : ev σ x = .pointer (some ⟨b, o, none⟩)) (h : K (.pointer (some ⟨b, o + 2, none⟩)) w) : opV Tryd.prog ⟨d, .fieldAddr 113 x 1, ty, pos, af, g⟩ σ w K := zA Tryd.underlying113 rfl rfl (fun w => ⟨0, Tryd.sizeOf66 w⟩) hx h
theorem Zg {G : Nat → Prop} {W w : World} {Rs : List HP} {b : Nat} {d : Dcl} {L : List Ent} (hb : (RefV b d L).p W G) (hS0 : Sep G W Rs w) : Ret Tryd.prog 37 [.pointer (some ⟨b, 0, none⟩)] w (fun r w' => ∃ (v : Value), r = (v : Value) ∧ Sep G W ((RowE (α := Ent) own 62 v L) :: Rs) w') := by
 refine zr (args := [Ix b 0]) Tryd.func37 rfl rfl ?_
 obtain ⟨vt1, vp2, a, j, k, m, g⟩ := RefV.sh hb
 have hsm8 : d.types.length * 24 ≤ 140737488355328 := k.small
 have hsm9 : d.projs.length * 40 ≤ 140737488355328 := m.small
 have hsm10 : L.length * 120 ≤ 140737488355328 := g.small
 refine zd (za kr (fun _ => (st (ze (v := (Iz)) rfl (zf (zd (za kr (fun _ => (st (zb (v := Ix b 0) rfl (st (zH (b := b) (o := 0) rfl (st (xI rfl (st (zg (v := a) Tryd.isAgg66 rfl (zh (hS0.gblk j) rfl) (st (zu (f := 66) (vals := [a]) (cap := []) rfl rfl Tryd.call66 (Xq (l := L) (vl := a) g hS0) ?_))))))))))))))))))
 rintro c w12 ⟨_, rfl, e⟩
 have h := e.row (i := 0) rfl
 have hr14s : _ * 120 ≤ _ := h.2
 refine st (ze (v := c) rfl (zf (zt (zO Tryd.results37 (show _ = (c : Value) from rfl) ?_))))
 refine ⟨c, rfl, e⟩

end Go.Proofs.YtlblilbmpdejgaaDoor
/- Steps of the proofs of this seat: part F27. -/
set_option maxRecDepth 8000
set_option maxHeartbeats 4000000
namespace Go.Proofs.YtlblilbmpdejgaaDoor
open Go.Proofs Go.RowKit

def Ran (d : Dcl) (L : List Ent) : Prop := ∃ l, L = yn d l
theorem Ran.inv {d : Dcl} {L : List Ent} (hd : DclOk d) (h : Ran d L) : Inv d L := by
  obtain ⟨l, rfl⟩ := h
  exact Inv.run hd l
theorem Ran.zero {d : Dcl} {L : List Ent} {ty no : Int} (h : Ran d L) (ht : ty < 0 ∨ (d.types.length : Int) ≤ ty) : zZ (ty, no) L = 0 := by
  obtain ⟨l, rfl⟩ := h
  by_cases hv : zZ (ty, no) (yn d l) = 0
  · exact hv
  · have := Kk l hv
    omega
theorem Ran.done {d : Dcl} {L : List Ent} {ty no : Int} (hd : DclOk d) (h : Ran d L) {i : Nat} (hi : i < L.length) (hon : onL (ty, no) (L.getD i default) = true) : Yy (Zj d ty) (zW d (ty, no) (L.take i)) (L.getD i default).ev.field (L.getD i default).ev.op (L.getD i default).ev.arg ∧ ((zW d (ty, no) (L.take i)).getD (L.getD i default).ev.field.toNat default).set.length ≤ 1000 := by
  obtain ⟨l, rfl⟩ := h
  rw [yS] at hi
  have hat := VN (d := d) hi
  have hev := QK (d := d) hi
  unfold onL at hon
  simp only [Bool.and_eq_true, Bool.not_eq_true', decide_eq_true_eq] at hon
  obtain ⟨hv, h1, h2⟩ := hon
  subst h1 h2
  rw [hat] at hv
  obtain ⟨hf, hm⟩ := Yj (d := d) (L := (yn d l).take i) (e := l.getD i default) hv
  obtain ⟨f1, f2, hft⟩ := Yc hf
  rw [hev]
  have hR : Right (Zj d (l.getD i default).typ) (zW d ((l.getD i default).typ, (l.getD i default).agg) ((yn d l).take i)) := by rw [← Us]; exact Inv.run hd _ _ _ f1 f2
  exact ⟨hft.ask (hd.typ _ (by omega)) hR, Qr hR hft.lo hft.hi⟩
theorem Kl {d : Dcl} {k : Int × Int} {L : List Ent} {j : Nat} (hj : j < L.length) (h : onL k (L.getD j default) = true) : zW d k (L.take (j + 1)) = doL (Zj d k.1) (zW d k (L.take j)) (L.getD j default).ev.field (L.getD j default).ev.op (L.getD j default).ev.arg := by
  have e : L.take (j + 1) = L.take j ++ [L.getD j default] := by rw [List.take_add_one, List.getElem?_eq_getElem hj, List.getD_eq_getElem?_getD, List.getElem?_eq_getElem hj]; rfl
  rw [e, xt, if_pos h]
theorem QY {d : Dcl} {k : Int × Int} {L : List Ent} {j : Nat} (hj : j < L.length) (h : onL k (L.getD j default) = false) : zW d k (L.take (j + 1)) = zW d k (L.take j) := by
  have e : L.take (j + 1) = L.take j ++ [L.getD j default] := by rw [List.take_add_one, List.getElem?_eq_getElem hj, List.getD_eq_getElem?_getD, List.getElem?_eq_getElem hj]; rfl
  rw [e, xt, h]; rfl
theorem xQ {d : Dcl} {k : Int × Int} {L : List Ent} (h : zZ k L = 0) : yb d k L = ⟨0, []⟩ ∧ (zp d L k).isSome = false ∧ stL d k L = [] := by
  have h1 : stL d k L = [] := if_pos h
  refine ⟨?_, ?_, h1⟩
  · unfold yb; rw [h1, h]; rfl
  · unfold zp; rw [if_pos h]; rfl
theorem Xm {d : Dcl} {k : Int × Int} {L : List Ent} (h : ¬ zZ k L = 0) : (zp d L k).isSome = true ∧ stL d k L = zW d k L := by
  refine ⟨?_, if_neg h⟩
  unfold zp; rw [if_neg h]; rfl
theorem Zo {d : Option Tmp} {ty : TypeId} {pos : String} {af : Array Edge} {g : Option (Nat × Bool)} {σ : Env} {w : World} {K : Value → World → Prop} {x : Operand} {b o : Nat} (hx : ev σ x = .pointer (some ⟨b, o, none⟩)) (h : K (.pointer (some ⟨b, o + 0, none⟩)) w) : opV Tryd.prog ⟨d, .fieldAddr 113 x 0, ty, pos, af, g⟩ σ w K := zA Tryd.underlying113 rfl rfl (fun w => ⟨1, Tryd.sizeOf25 w⟩) hx h
theorem ZU {G : Nat → Prop} {W w : World} {Rs : List HP} {b : Nat} {d : Dcl} {L : List Ent} (hb : (RefV b d L).p W G) {ty : Int} (hty : InR ty) {no : Int} (hno : InR no) (hS0 : Sep G W Rs w) (hd : DclOk d) (hrl : Ran d L) (hml : L.length ≤ 1000000) : Ret Tryd.prog 33 [.pointer (some ⟨b, 0, none⟩), .int .i64 (ty), .int .i64 (no)] w (fun r w' => ∃ (v : Value), r = (.tuple #[.agg ((yb d (ty, no) L).cells v).toArray, .bool ((zp d L (ty, no)).isSome)] : Value) ∧ Sep G W ((RowE (α := Cel) own 42 v (stL d (ty, no) L)) :: Rs) w') := by
 refine zr (args := [Ix b 0, Iv ty, Iv no]) Tryd.func33 rfl rfl ?_
 obtain ⟨g, vp2, m, P, Q, bL, z⟩ := RefV.sh hb
 have hsm8 : d.types.length * 24 ≤ 140737488355328 := Q.small
 have hsm9 : d.projs.length * 40 ≤ 140737488355328 := bL.small
 have hsm10 : L.length * 120 ≤ 140737488355328 := z.small
 refine zd (za kr (fun _ => (st (zB Tryd.zeroValue68 ?_))))
 intro w13 A bh
 have u := hS0.new bh
 refine st (ze (v := .bool false) rfl (zf (zd (zd (zF kr (st (zb (v := Iv ty) rfl (st (zL (k := .i64) (a := ty) (b := 0) rfl rfl (st (zb (v := .bool (decide (ty < 0))) rfl (stc (V := Iv ty) rfl rfl (fun bi => ?_) ?_))))))))))))
 have af := bi
 have af := fD af
 exact zb (v := Iv ty) rfl ⟨rfl, rfl⟩
 refine stc (V := Ix b 0) rfl rfl (fun bj => ?_) ?_
 have ag := bj
 have ag := fD ag
 exact zb (v := Ix b 0) rfl ⟨rfl, rfl⟩
 refine stc (V := Ix b 0) rfl rfl (fun ah => ?_) ?_
 have ai := ah
 have ai := fD ai
 exact zH (b := b) (o := 0) (show _ = (Ix b 0 : Value) from (if_pos ah)) ⟨rfl, rfl⟩
 refine stc (V := Ix b 0) rfl rfl (fun aj => ?_) ?_
 have ak := aj
 have ak := fD ak
 exact Zo (show _ = (Ix b 0 : Value) from (if_pos aj)) ⟨rfl, rfl⟩
 refine stc (V := Ix b 0) rfl rfl (fun al => ?_) ?_
 have am := al
 have am := fD am
 exact yo (show _ = (Ix b 0 : Value) from (if_pos al)) ⟨rfl, rfl⟩
 refine stc (V := g) rfl rfl (fun an => ?_) ?_
 have ao := an
 have ao := fD ao
 exact zg (v := g) Tryd.isAgg22 (show _ = (Ix b 0 : Value) from (if_pos an)) (zh (u.gblk P) rfl) ⟨rfl, rfl⟩
 refine stc (V := Iw d.types.length) rfl rfl (fun ap => ?_) ?_
 have aq := ap
 have aq := fD aq
 exact zJ (n := d.types.length) Tryd.underlying22 (show _ = (g : Value) from (if_pos ap)) Q.sl ⟨rfl, rfl⟩
 refine stc (V := .bool (decide (((d.types.length : Nat) : Int) ≤ ty))) rfl rfl (fun S => ?_) ?_
 have ar := S
 have ar := fD ar
 exact yY (k := .i64) (a := ty) (b := ((d.types.length : Nat) : Int)) (show _ = (Iv ty : Value) from (if_pos S)) (show _ = (Iw d.types.length : Value) from (if_pos S)) ⟨rfl, rfl⟩
 refine st (zG (b := decide (ty < 0)) (b' := decide (((d.types.length : Nat) : Int) ≤ ty)) rfl (fun hbp => (show _ = (.bool (decide (((d.types.length : Nat) : Int) ≤ ty)) : Value) from (if_pos hbp))) (zf ?_))
 cases T : (decide (ty < 0)) || (decide (((d.types.length : Nat) : Int) ≤ ty))
 have hc31r := T
 try simp only [zj] at T
 refine zn rfl (zv (zd (za kr (fun _ => (st (zb (v := Ix b 0) rfl (st (zH (b := b) (o := 0) rfl (st (Zo rfl (st (yo rfl (st (zg (v := g) Tryd.isAgg22 rfl (zh (u.gblk P) rfl) (st (zb (v := Iv ty) rfl ?_))))))))))))))))
 have hi32 : ty.toNat < d.types.length := bo
 refine st (zz (k := 1) (i := ty) Tryd.underlying22 Tryd.sizeOf33 rfl Q.sl rfl ⟨by omega, by omega⟩ ?_)
 have U : ty.toNat < d.types.length := bo
 obtain ⟨Z, l, B⟩ := Q.typ U
 rw [← zm default U] at Z l B
 have hsm35 : ((d.types.getD ty.toNat default).fields).length * 48 ≤ 140737488355328 := l.small
 have aI := u.cells Z (Q.foot (ne_of_lt U))
 refine st (zl (k := 1) Tryd.isAgg33 Tryd.sizeOf33 rfl rfl aI (st (zB Tryd.zeroValue33 ?_)))
 intro w39 au bk
 have av := u.new bk
 refine stn (zy (v := .agg ((d.types.getD ty.toNat default).cells (zi W (sb g) (so g + ty.toNat * 1 + 0))).toArray) (c' := ((d.types.getD ty.toNat default).cells (zi W (sb g) (so g + ty.toNat * 1 + 0))).toArray) Tryd.sizeOf33 rfl rfl (av.blk (i := 0) rfl) (ya ⟨l.sl.one, trivial⟩) (Nat.le_of_ble_eq_true rfl) rfl ?_)
 intro w41 bl
 have aw := av.pt0 bl
 refine zf (zd (za kr (fun _ => (st (zl (k := 1) Tryd.isAgg33 Tryd.sizeOf33 rfl rfl (CellsAt.all (aw.blk (i := 0) rfl)) (st (zu (f := 64) (vals := [.agg ((d.types.getD ty.toNat default).cells (zi W (sb g) (so g + ty.toNat * 1 + 0))).toArray]) (cap := []) rfl rfl Tryd.call64 (Xo (t := (d.types.getD ty.toNat default)) l B aw) ?_)))))))
 rintro H w45 ⟨_, rfl, ax⟩
 have X := ax.row (i := 0) rfl
 have hr47s : _ * 32 ≤ _ := X.2
 refine st (zQ (parts' := [(1, H)]) (v := .agg #[Iv 0, H]) rfl (by obtain ⟨_, _, bm, _⟩ := X.1; rw [show H = Value.slice _ _ _ from bm]; simp [Instr.build, Instr.fill, Ev.cells, go_sem, Mv.cells, Fld.cells, Typ.cells, Prj.cells, Dcl.cells, Cel.cells, AskR.cells, Ask.cells, CelS.cells, Ev.cells, Ent.cells, Sta.cells]) (st (zB Tryd.zeroValue68 ?_)))
 intro w51 ay bn
 have az := ax.new bn
 refine stn (zy (v := .agg #[Iv 0, H]) (c' := #[Iv 0, H]) Tryd.sizeOf68 rfl rfl (az.blk (i := 0) rfl) (ya ⟨rfl, X.1.one, trivial⟩) (Nat.le_of_ble_eq_true rfl) rfl ?_)
 intro w53 bp
 have bq := az.pt0 bp
 refine zf (zd (zd (za kr (fun _ => (st (ze (v := Iv 0) rfl (zf (zw (yd (fun mq σ wq => ∃ (k : Nat) (vs : Value) (ρ : Env), mq = L.length - k ∧ σ = yh ρ [(0, Ix b 0), (1, Iv ty), (2, Iv no), (6, Ix A 0), (7, .bool false), (8, Ix au 0), (9, Ix ay 0), (10, Iw k)] ∧ (k ≤ L.length) ∧ Sep G W ((Blk ay #[Iw (zZ (ty, no) (L.take k)), vs] 68) :: (RowE (α := Cel) own 42 vs (zW d (ty, no) (L.take k))) :: (Blk au ((d.types.getD ty.toNat default).cells (zi W (sb g) (so g + ty.toNat * 1 + 0))).toArray 33) :: (Blk A #[Iv 0, (Iz)] 68) :: Rs) wq) ⟨0, H, _, rfl, zq ⟨rfl, rfl, rfl, rfl, rfl, rfl, rfl, rfl, trivial⟩, Nat.zero_le _, bq⟩ ?_)))))))))
 rintro m57 σ58 w56 ⟨k, vs, ρl1, rfl, rfl, hkk, e⟩
 have br := e.row (i := 1) rfl
 have hr60s : _ * 32 ≤ _ := br.2
 have aA := YK (ty, no) (L.take k)
 rw [List.length_take] at aA
 refine zd (zd (za kr (fun _ => (st (zb (v := Iw k) rfl (st (zb (v := Ix b 0) rfl (st (zH (b := b) (o := 0) rfl (st (xI rfl (st (zg (v := m) Tryd.isAgg66 rfl (zh (e.gblk P) rfl) (st (zJ (n := L.length) Tryd.underlying66 rfl z.sl (st (zL (k := .i64) (a := ((k : Nat) : Int)) (b := ((L.length : Nat) : Int)) rfl rfl (zf ?_))))))))))))))))))
 cases C : decide (((k : Nat) : Int) < ((L.length : Nat) : Int))
 have hc61r := C
 have C := fD C
 have hkn : L.take k = L := List.take_of_length_le om
 rw [hkn] at e aA
 refine zn rfl (yc (zU (zd (zd (za kr (fun _ => (st (ZT rfl (st (zg (v := Iw (zZ (ty, no) L)) Tryd.isAgg3 rfl (zh (e.blk (i := 0) rfl) rfl) (st (zP (k := .i64) (a := ((zZ (ty, no) L : Nat) : Int)) (b := 0) rfl rfl (zf ?_)))))))))))))
 cases D : decide (((zZ (ty, no) L : Nat) : Int) = 0)
 have hc62r := D
 have D := fD D
 have q : ¬ zZ (ty, no) L = 0 := by omega
 refine zn rfl (zv (zd (za kr (fun _ => (st (zl (k := 2) Tryd.isAgg68 Tryd.sizeOf68 rfl rfl (CellsAt.all (e.blk (i := 0) rfl)) ?_))))))
 have aB := e.row (i := 1) rfl
 have hr65s : _ * 32 ≤ _ := aB.2
 refine stn (zy (v := .agg #[Iw (zZ (ty, no) L), vs]) (c' := #[Iw (zZ (ty, no) L), vs]) Tryd.sizeOf68 rfl rfl (e.blk (i := 3) rfl) (ya ⟨rfl, aB.1.one, trivial⟩) (Nat.le_of_ble_eq_true rfl) rfl ?_)
 intro bM bs
 have aC := e.pt3 bs
 refine st (ze (v := .bool true) rfl (zf (zt (Zt (b := A) Tryd.results33 Tryd.isAgg68 Tryd.sizeOf68 rfl rfl (CellsAt.all (aC.blk (i := 3) rfl)) (show _ = (.bool true : Value) from rfl) ?_))))
 have aD : Sep G W ((RowE (α := Cel) own 42 vs (zW d (ty, no) L)) :: Rs) bM := aC.sel 4 [1] (Nat.le_add_left _ _) rfl rfl
 rw [← (Xm (d := d) q).2] at aD
 refine ⟨vs, ?_, aD⟩
 rw [(Xm (d := d) q).1]; unfold yb; rw [(Xm (d := d) q).2]; rfl
 have D := tD D
 have q : zZ (ty, no) L = 0 := by omega
 refine zo rfl (zd (za (by kernel_rfl) (fun _ => (st (zQ (parts' := []) (v := .agg #[Iv 0, (Iz)]) rfl (by simp [Instr.build, Instr.fill, Ev.cells, go_sem, Mv.cells, Fld.cells, Typ.cells, Prj.cells, Dcl.cells, Cel.cells, AskR.cells, Ask.cells, CelS.cells, Ev.cells, Ent.cells, Sta.cells]) (stn (zy (v := .agg #[Iv 0, (Iz)]) (c' := #[Iv 0, (Iz)]) Tryd.sizeOf68 rfl rfl (e.blk (i := 3) rfl) (ya ⟨rfl, rfl, trivial⟩) (Nat.le_of_ble_eq_true rfl) rfl ?_)))))))
 intro bg bt
 have aE := e.pt3 bt
 refine st (ze (v := .bool false) rfl (zf (zt (Zt (b := A) Tryd.results33 Tryd.isAgg68 Tryd.sizeOf68 rfl rfl (CellsAt.all (aE.blk (i := 3) rfl)) (show _ = (.bool false : Value) from rfl) ?_))))
 have bu : Sep G W ((RowE (α := Cel) own 42 (Iz) (stL d (ty, no) L)) :: (Blk ay #[Iw (zZ (ty, no) L), vs] 68) :: (RowE (α := Cel) own 42 vs (zW d (ty, no) L)) :: (Blk au ((d.types.getD ty.toNat default).cells (zi W (sb g) (so g + ty.toNat * 1 + 0))).toArray 33) :: (Blk A #[Iv 0, (Iz)] 68) :: Rs) bg := (by rw [(xQ (d := d) q).2.2]; exact aE.rowNil own 42)
 have bv : Sep G W ((RowE (α := Cel) own 42 (Iz) (stL d (ty, no) L)) :: Rs) bg := bu.sel 5 [0] (Nat.le_add_left _ _) rfl rfl
 refine ⟨(Iz), ?_, bv⟩
 rw [(xQ (d := d) q).1, (xQ (d := d) q).2.1]; rfl
 have C := tD C
 refine zo rfl (zv (zd (zw (zd (za kr (fun _ => (st (zb (v := Ix b 0) rfl (st (zH (b := b) (o := 0) rfl (st (xI rfl (st (zg (v := m) Tryd.isAgg66 rfl (zh (e.gblk P) rfl) (st (zb (v := Iw k) rfl ?_))))))))))))))))
 have bw : k < L.length := bo
 refine st (zk (k := 13) (i := k) Tryd.underlying66 Tryd.sizeOf62 rfl z.sl rfl bw (st (Za rfl ?_)))
 have I : k < L.length := bo
 obtain ⟨J, x, s⟩ := z.ent I
 rw [← zm default I] at J x s
 have hsm76 : ((L.getD k default).ev.deps).length * 8 ≤ 140737488355328 := x.small
 have aJ := e.cells J (z.foot (ne_of_lt I))
 refine st (zl (k := 10) (cs := [Iv ((L.getD k default).ev.origin), Iv ((L.getD k default).ev.seq), Iv ((L.getD k default).ev.lam), (zi W (sb m) (so m + k * 13 + 3)), Iv ((L.getD k default).ev.typ), Iv ((L.getD k default).ev.agg), Iv ((L.getD k default).ev.field), Iv ((L.getD k default).ev.op), Iv ((L.getD k default).ev.arg), Iv ((L.getD k default).ev.key)]) Tryd.isAgg59 Tryd.sizeOf59 rfl rfl (CellsAt.sub aJ 0 (cs2 := [Iv ((L.getD k default).ev.origin), Iv ((L.getD k default).ev.seq), Iv ((L.getD k default).ev.lam), (zi W (sb m) (so m + k * 13 + 3)), Iv ((L.getD k default).ev.typ), Iv ((L.getD k default).ev.agg), Iv ((L.getD k default).ev.field), Iv ((L.getD k default).ev.op), Iv ((L.getD k default).ev.arg), Iv ((L.getD k default).ev.key)]) rfl) (st (zB Tryd.zeroValue59 ?_)))
 intro w80 aa bx
 have aF := e.new bx
 refine stn (zy (v := .agg (((L.getD k default).ev).cells (zi W (sb m) (so m + k * 13 + 3))).toArray) (c' := (((L.getD k default).ev).cells (zi W (sb m) (so m + k * 13 + 3))).toArray) Tryd.sizeOf59 rfl rfl (aF.blk (i := 0) rfl) (ya ⟨rfl, rfl, rfl, x.sl.one, rfl, rfl, rfl, rfl, rfl, rfl, trivial⟩) (Nat.le_of_ble_eq_true rfl) rfl ?_)
 intro w82 bz
 have h := aF.pt0 bz
 refine zf (zd (zF kr (st (zb (v := Ix b 0) rfl (st (zH (b := b) (o := 0) rfl (st (xI rfl (st (zg (v := m) Tryd.isAgg66 rfl (zh (h.gblk P) rfl) (st (zb (v := Iw k) rfl ?_))))))))))))
 have bA : k < L.length := bo
 refine st (zk (k := 13) (i := k) Tryd.underlying66 Tryd.sizeOf62 rfl z.sl rfl bA (st (xY rfl ?_)))
 have aK := h.cells J (z.foot (ne_of_lt I))
 refine st (zg (v := .bool ((L.getD k default).void)) Tryd.isAgg4 rfl (aK.get (j := 10) rfl) (st (yt (a := (L.getD k default).void) rfl (st (zb (v := .bool (!((L.getD k default).void))) rfl (stc (V := Ix aa 4) rfl rfl (fun bB => ?_) ?_))))))
 have bC := bB
 try simp only [zj] at bC
 exact xa rfl ⟨rfl, rfl⟩
 refine stc (V := Iv (((L.getD k default).ev).typ)) rfl rfl (fun aG => ?_) ?_
 have bD := aG
 try simp only [zj] at bD
 exact zg (v := Iv (((L.getD k default).ev).typ)) Tryd.isAgg3 (show _ = (Ix aa 4 : Value) from (if_pos aG)) (zh (h.blk (i := 0) rfl) rfl) ⟨rfl, rfl⟩
 refine stc (V := Iv ty) rfl rfl (fun bE => ?_) ?_
 have bF := bE
 try simp only [zj] at bF
 exact zb (v := Iv ty) rfl ⟨rfl, rfl⟩
 refine stc (V := .bool (decide ((((L.getD k default).ev).typ) = ty))) rfl rfl (fun Y => ?_) ?_
 have bG := Y
 try simp only [zj] at bG
 exact zP (k := .i64) (a := ((L.getD k default).ev).typ) (b := ty) (show _ = (Iv (((L.getD k default).ev).typ) : Value) from (if_pos Y)) (show _ = (Iv ty : Value) from (if_pos Y)) ⟨rfl, rfl⟩
 refine st (zx (b := !((L.getD k default).void)) (b' := decide ((((L.getD k default).ev).typ) = ty)) rfl (fun hbp => (show _ = (.bool (decide ((((L.getD k default).ev).typ) = ty)) : Value) from (if_pos hbp))) (st (zb (v := .bool ((!((L.getD k default).void)) && (decide ((((L.getD k default).ev).typ) = ty)))) rfl (stc (V := Ix aa 5) rfl rfl (fun bH => ?_) ?_))))
 have bI := bH
 try simp only [zj] at bI
 exact xZ rfl ⟨rfl, rfl⟩
 refine stc (V := Iv (((L.getD k default).ev).agg)) rfl rfl (fun aH => ?_) ?_
 have bJ := aH
 try simp only [zj] at bJ
 exact zg (v := Iv (((L.getD k default).ev).agg)) Tryd.isAgg3 (show _ = (Ix aa 5 : Value) from (if_pos aH)) (zh (h.blk (i := 0) rfl) rfl) ⟨rfl, rfl⟩
 refine stc (V := Iv no) rfl rfl (fun aL => ?_) ?_
 have aM := aL
 try simp only [zj] at aM
 exact zb (v := Iv no) rfl ⟨rfl, rfl⟩
 refine stc (V := .bool (decide ((((L.getD k default).ev).agg) = no))) rfl rfl (fun K => ?_) ?_
 have aN := K
 try simp only [zj] at aN
 exact zP (k := .i64) (a := ((L.getD k default).ev).agg) (b := no) (show _ = (Iv (((L.getD k default).ev).agg) : Value) from (if_pos K)) (show _ = (Iv no : Value) from (if_pos K)) ⟨rfl, rfl⟩
 refine st (zx (b := (!((L.getD k default).void)) && (decide ((((L.getD k default).ev).typ) = ty))) (b' := decide ((((L.getD k default).ev).agg) = no)) rfl (fun hbp => (show _ = (.bool (decide ((((L.getD k default).ev).agg) = no)) : Value) from (if_pos hbp))) (zf ?_))
 cases y : ((!((L.getD k default).void)) && (decide ((((L.getD k default).ev).typ) = ty))) && (decide ((((L.getD k default).ev).agg) = no))
 have E := y
 try simp only [zj] at y
 have honfalse : onL (ty, no) (L.getD k default) = false := onL_raw.trans E
 refine zn rfl (zv (za kr (fun _ => (st (zb (v := Iw k) rfl ?_)))))
 have aO : InR ((k + 1 : Nat) : Int) := bo
 refine st (zV (r := ((k + 1 : Nat) : Int)) (k := .i64) (a := ((k : Nat) : Int)) (b := 1) rfl rfl (by rw [show (((k : Nat) : Int) + 1 : Int) = ((k + 1 : Nat) : Int) from bo]; exact zM aO) (st (ze (v := Iw (k + 1)) rfl (zf ?_))))
 have M := h.s5_bcde
 have aP : zZ (ty, no) (L.take (k + 1)) = zZ (ty, no) (L.take k) := ver_f om honfalse
 rw [← aP] at M
 have aQ : zW d (ty, no) (L.take (k + 1)) = (zW d (ty, no) (L.take k)) := QY om honfalse
 rw [← aQ] at M
 exact ⟨_, by omega, k + 1, vs, _, rfl, zq ⟨rfl, rfl, rfl, rfl, rfl, rfl, rfl, rfl, trivial⟩, by omega, M⟩
 have E := y
 try simp only [zj] at y
 have hontrue : onL (ty, no) (L.getD k default) = true := onL_raw.trans E
 have hdn := Ran.done hd hrl om hontrue
 refine zo rfl (zd (za kr (fun _ => (st (zl (k := 1) Tryd.isAgg33 Tryd.sizeOf33 rfl rfl (CellsAt.all (h.blk (i := 3) rfl)) (st (yF rfl (st (zg (v := vs) Tryd.isAgg26 rfl (zh (h.blk (i := 1) rfl) rfl) (st (xj rfl (st (zg (v := Iv (((L.getD k default).ev).field)) Tryd.isAgg3 rfl (zh (h.blk (i := 0) rfl) rfl) (st (xo rfl (st (zg (v := Iv (((L.getD k default).ev).op)) Tryd.isAgg3 rfl (zh (h.blk (i := 0) rfl) rfl) (st (xe rfl (st (zg (v := Iv (((L.getD k default).ev).arg)) Tryd.isAgg3 rfl (zh (h.blk (i := 0) rfl) rfl) ?_)))))))))))))))))))))
 have aR := h.mv2
 obtain ⟨G110, aS, aT, aU, aV⟩ := aR.lend
 have R := RowE.rd aS
 have hrd116s : _ * 32 ≤ _ := R.small
 refine st (zu (f := 50) (vals := [.agg ((d.types.getD ty.toNat default).cells (zi W (sb g) (so g + ty.toNat * 1 + 0))).toArray, vs, Iv (((L.getD k default).ev).field), Iv (((L.getD k default).ev).op), Iv (((L.getD k default).ev).arg)]) (cap := []) rfl rfl Tryd.call50 (Qm (t := (d.types.getD ty.toNat default)) (c := (zW d (ty, no) (L.take k))) (vc := vs) (fi := ((L.getD k default).ev).field) (op := ((L.getD k default).ev).op) (arg := ((L.getD k default).ev).arg) (RdS.base l aT) B R s.ev.field s.ev.op s.ev.arg aU (hdn.1) (hdn.2)) ?_)
 rintro F w118 ⟨_, rfl, ab⟩
 have ac := ab.row (i := 0) rfl
 have hr120s : _ * 32 ≤ _ := ac.2
 have ad := aV _ _ ab
 refine st (yF rfl (stn (yv (v := F) (c := [Iw (zZ (ty, no) (L.take k)), vs]) (c' := [Iw (zZ (ty, no) (L.take k)), F]) Tryd.sizeOf26 rfl rfl (ad.blk (i := 3) rfl) ac.1.one rfl rfl ?_)))
 intro w122 aW
 have N := ad.pt3 aW
 refine zf (za kr (fun _ => (st (ZT rfl (st (zg (v := Iw (zZ (ty, no) (L.take k))) Tryd.isAgg3 rfl (zh (N.blk (i := 3) rfl) rfl) ?_))))))
 have aX : InR ((zZ (ty, no) (L.take k) + 1 : Nat) : Int) := bo
 refine st (zV (r := ((zZ (ty, no) (L.take k) + 1 : Nat) : Int)) (k := .i64) (a := ((zZ (ty, no) (L.take k) : Nat) : Int)) (b := 1) rfl rfl (by rw [show (((zZ (ty, no) (L.take k) : Nat) : Int) + 1 : Int) = ((zZ (ty, no) (L.take k) + 1 : Nat) : Int) from bo]; exact zM aX) (st (ZT rfl (stn (yv (v := Iw (zZ (ty, no) (L.take k) + 1)) (c := [Iw (zZ (ty, no) (L.take k)), F]) (c' := [Iw (zZ (ty, no) (L.take k) + 1), F]) Tryd.sizeOf3 rfl rfl (N.blk (i := 3) rfl) rfl rfl rfl ?_)))))
 intro w126 aY
 have aZ := N.pt3 aY
 refine zf (za kr (fun _ => (st (zb (v := Iw k) rfl ?_))))
 have ba : InR ((k + 1 : Nat) : Int) := bo
 refine st (zV (r := ((k + 1 : Nat) : Int)) (k := .i64) (a := ((k : Nat) : Int)) (b := 1) rfl rfl (by rw [show (((k : Nat) : Int) + 1 : Int) = ((k + 1 : Nat) : Int) from bo]; exact zM ba) (st (ze (v := Iw (k + 1)) rfl (zf ?_))))
 have O := aZ.s6_dbef
 have bb : zZ (ty, no) (L.take (k + 1)) = zZ (ty, no) (L.take k) + 1 := ver_t om hontrue
 rw [← bb] at O
 have bc : zW d (ty, no) (L.take (k + 1)) = (doL (d.types.getD ty.toNat default) (zW d (ty, no) (L.take k)) (((L.getD k default).ev).field) (((L.getD k default).ev).op) (((L.getD k default).ev).arg)) := Kl om hontrue
 rw [← bc] at O
 exact ⟨_, by omega, k + 1, F, _, rfl, zq ⟨rfl, rfl, rfl, rfl, rfl, rfl, rfl, rfl, trivial⟩, by omega, O⟩
 try simp only [zj] at T
 have q : zZ (ty, no) L = 0 := hrl.zero om
 refine zo rfl (zd (za (by kernel_rfl) (fun _ => (st (zQ (parts' := []) (v := .agg #[Iv 0, (Iz)]) rfl (by simp [Instr.build, Instr.fill, Ev.cells, go_sem, Mv.cells, Fld.cells, Typ.cells, Prj.cells, Dcl.cells, Cel.cells, AskR.cells, Ask.cells, CelS.cells, Ev.cells, Ent.cells, Sta.cells]) (stn (zy (v := .agg #[Iv 0, (Iz)]) (c' := #[Iv 0, (Iz)]) Tryd.sizeOf68 rfl rfl (u.blk (i := 0) rfl) (ya ⟨rfl, rfl, trivial⟩) (Nat.le_of_ble_eq_true rfl) rfl ?_)))))))
 intro bK bd
 have ae := u.pt0 bd
 refine st (ze (v := .bool false) rfl (zf (zt (Zt (b := A) Tryd.results33 Tryd.isAgg68 Tryd.sizeOf68 rfl rfl (CellsAt.all (ae.blk (i := 0) rfl)) (show _ = (.bool false : Value) from rfl) ?_))))
 have be : Sep G W ((RowE (α := Cel) own 42 (Iz) (stL d (ty, no) L)) :: (Blk A #[Iv 0, (Iz)] 68) :: Rs) bK := (by rw [(xQ (d := d) q).2.2]; exact ae.rowNil own 42)
 have bf := be.s2_a
 refine ⟨(Iz), ?_, bf⟩
 rw [(xQ (d := d) q).1, (xQ (d := d) q).2.1]; rfl

end Go.Proofs.YtlblilbmpdejgaaDoor
/- Steps of the proofs of this seat: part F28. -/
set_option maxRecDepth 8000
set_option maxHeartbeats 4000000
namespace Go.Proofs.YtlblilbmpdejgaaDoor
open Go.Proofs Go.RowKit

theorem rj_raw {d : Dcl} {e : Ev} {y : Ent} : rJ d e y = (((((!y.void) && decide (y.ev.typ = e.typ)) && decide (y.ev.agg = e.agg)) && decide (y.ev.field = e.field)) && yG ((Zj d e.typ).fields.getD e.field.toNat default) y.ev e) := by
  unfold rJ on3
  cases y.void <;> simp [Bool.decide_and, Bool.and_assoc]
theorem XB {d : Dcl} {e : Ev} {L : List Ent} : (zY (e.typ, e.agg, e.field) L).find? (fun x => yG ((Zj d e.typ).fields.getD e.field.toNat default) x e) = (L.find? (rJ d e)).map (·.ev) := by
  unfold zY
  rw [Zq]
  rfl
theorem KC {d : Dcl} {e : Ev} {L : List Ent} {k : Nat} (h : yJ d e.typ e.field e.op e.arg = 0) (hk : k < L.length) (h0 : ∀ i, i < k → rJ d e (L.getD i default) = false) (h1 : rJ d e (L.getD k default) = true) : zK d L e = (true, (L.getD k default).ev.origin, (L.getD k default).ev.seq) := by
  unfold zK
  rw [if_neg (by simpa using h), XB, Wt hk h1 h0]
  rfl
theorem US {d : Dcl} {e : Ev} {L : List Ent} (h : yJ d e.typ e.field e.op e.arg = 0) (h0 : ∀ i, i < L.length → rJ d e (L.getD i default) = false) : zK d L e = (!decide (yU (Zj d e.typ) (zW d (e.typ, e.agg) L) e.field e.op e.arg = 0), 0, 0) := by
  unfold zK
  rw [if_neg (by simpa using h), XB, QB h0]
  show (if ¬ _ = 0 then _ else _) = _
  by_cases hm : yU (Zj d e.typ) (zW d (e.typ, e.agg) L) e.field e.op e.arg = 0
  · rw [if_neg (by simpa using hm), decide_eq_true hm]; rfl
  · rw [if_pos hm, decide_eq_false hm]; rfl
set_option maxHeartbeats 8000000 in
theorem Uf {G : Nat → Prop} {W w : World} {Rs : List HP} {b : Nat} {d : Dcl} {L : List Ent} (hb : (RefV b d L).p W G) {e : Ev} {de0 : Value} (hde0 : RdS W G de0 e.deps) (oe : e.Ok) (hS0 : Sep G W Rs w) (hd : DclOk d) (hrl : Ran d L) (hml : L.length ≤ 1000000) : Ret Tryd.prog 61 [.pointer (some ⟨b, 0, none⟩), .agg (e.cells de0).toArray] w (fun r w' => r = (.tuple #[.bool ((zK d L e).1), .agg #[.int .i64 ((zK d L e).2.1), .int .i64 ((zK d L e).2.2)]] : Value) ∧ (InR (zK d L e).2.1 ∧ InR (zK d L e).2.2) ∧ Sep G W Rs w') := by
 have hde0s : _ * 8 ≤ _ := hde0.small
 refine zr (args := [Ix b 0, .agg (e.cells de0).toArray]) Tryd.func61 rfl rfl ?_
 obtain ⟨g, ce, s, ae, u, gz, ax⟩ := RefV.sh hb
 have hsm8 : d.types.length * 24 ≤ 140737488355328 := u.small
 have hsm9 : d.projs.length * 40 ≤ 140737488355328 := gz.small
 have hsm10 : L.length * 120 ≤ 140737488355328 := ax.small
 refine zd (za kr (fun _ => (st (zT (v := .agg (e.cells de0).toArray) rfl ?_))))
 intro w13 l gD
 have gE := hS0.new gD
 refine st (ze (v := .bool false) rfl (st (zB Tryd.zeroValue57 ?_)))
 intro w17 B gF
 have gG := gE.new gF
 refine zf (zd (zd (WD4 ((fun TT C => WF [fun vals A => Sep G W (C :: TT) A, fun vals A => (vals 12 = (Iv (yJ d e.typ e.field e.op e.arg) : Value)) ∧ Sep G W (C :: TT) A]) ((Blk l (e.cells de0).toArray 59) :: Rs) (Blk B #[Iv 0, Iv 0] 57)) (AF [Vl 0 (Ix b 0), Vl 1 (Ix b 0), Vl 2 (Ix b 0), Vl 3 (.agg (d.cells g ce).toArray), Vl 4 (Ix l 4), Vl 5 (Iv (e.typ)), Vl 6 (Ix l 6), Vl 7 (Iv (e.field)), Vl 8 (Ix l 7), Vl 9 (Iv (e.op)), Vl 10 (Ix l 8), Vl 11 (Iv (e.arg)), fun _ => True, Vl 13 (.bool (!decide ((yJ d e.typ e.field e.op e.arg) = 0)))]) [[], [0], [0, 1], [0, 1, 2], [], [4], [], [6], [], [8], [], [10], (rg 12), (rg 13)] [12] [(0, 0), (0, 0), (0, 0), (0, 0), (0, 0), (0, 0), (0, 0), (0, 0), (0, 0), (0, 0), (0, 0), (0, 0), (0, 0), (1, 1)] gG ⟨?_, ?_, ?_, ?_, ?_, ?_, ?_, ?_, ?_, ?_, ?_, ?_, ?_, ?_, trivial⟩ ?_)))
 exact fun _ _ _ _ _ _ _ => obl rfl (zb (v := Ix b 0) rfl dR)
 exact fun _ _ _ _ _ _ eS => obl rfl (zH (b := b) (o := 0) (eS 0 dc) dR)
 exact fun _ _ _ _ _ _ eT => obl rfl (Zo (eT 1 dc) dR)
 refine ob1 0 fun _ _ (eU : Sep _ _ _ _) eV => (obl rfl ?_)
 have ok154 : Dcl.Ok d := ⟨⟩
 exact zl (k := 2) (cs := [g, ce]) Tryd.isAgg25 Tryd.sizeOf25 rfl (eV 2 dc) (CellsAt.sub (CellsAt.all (eU.gblk ae)) 0 (cs2 := [g, ce]) rfl) dR
 exact fun _ _ _ _ _ _ _ => obl rfl (xa rfl dR)
 exact ob1 0 fun _ _ (eW : Sep _ _ _ _) eX => obl rfl (zg (v := Iv (e.typ)) Tryd.isAgg3 (eX 4 dc) (zh (eW.blk (i := 1) rfl) rfl) dR)
 exact fun _ _ _ _ _ _ _ => obl rfl (xj rfl dR)
 exact ob1 0 fun _ _ (eY : Sep _ _ _ _) eZ => obl rfl (zg (v := Iv (e.field)) Tryd.isAgg3 (eZ 6 dc) (zh (eY.blk (i := 1) rfl) rfl) dR)
 exact fun _ _ _ _ _ _ _ => obl rfl (xo rfl dR)
 exact ob1 0 fun _ _ (fa : Sep _ _ _ _) fb => obl rfl (zg (v := Iv (e.op)) Tryd.isAgg3 (fb 8 dc) (zh (fa.blk (i := 1) rfl) rfl) dR)
 exact fun _ _ _ _ _ _ _ => obl rfl (xe rfl dR)
 exact ob1 0 fun _ _ (fc : Sep _ _ _ _) fd => obl rfl (zg (v := Iv (e.arg)) Tryd.isAgg3 (fd 10 dc) (zh (fc.blk (i := 1) rfl) rfl) dR)
 refine ob1 0 fun vals _ (fe : Sep _ _ _ _) af => (obl rfl ((zu (f := 89) (vals := [.agg (d.cells g ce).toArray, Iv (e.typ), Iv (e.field), Iv (e.op), Iv (e.arg)]) (cap := []) rfl (yP ⟨(af 3 dc), (af 5 dc), (af 7 dc), (af 9 dc), (af 11 dc), trivial⟩) Tryd.call89 (Ui (d := d) (ty := e.typ) (f := e.field) (op := e.op) (arg := e.arg) u gz (⟨⟩ : Dcl.Ok d) oe.typ oe.field oe.op oe.arg fe) ?_)))
 rintro _ w116 ⟨rfl, ff⟩
 exact fun E T M => ⟨(And.intro T ff), trivial⟩
 refine ob1 1 fun _ _ fg _ => ?_
 obtain ⟨cf, hS217⟩ := fg
 exact obl rfl (yq (k := .i64) (a := yJ d e.typ e.field e.op e.arg) (b := 0) cf rfl dR)
 intro vals w218 fh fj
 obtain ⟨cf, aY⟩ := fh
 have gH := fj 13 dc
 refine yf (kv := [(0, Ix b 0), (1, .agg (e.cells de0).toArray), (3, Ix l 0), (4, .bool false), (5, Ix B 0), (25, .bool (!decide ((yJ d e.typ e.field e.op e.arg) = 0)))]) ⟨rfl, rfl, rfl, rfl, rfl, (by exact gH), trivial⟩ (fun ρw218 => (zf ?_))
 cases H : !decide ((yJ d e.typ e.field e.op e.arg) = 0)
 have hc223r := H
 have H := zC H
 have hfo := Yc H
 have hfz := H
 have gA := hfo.1; have gB := hfo.2.1; have hft := hfo.2.2
 have hfl := hft.lo; have hfh := hft.hi
 refine zn rfl (zv (zd ?_))
 refine WD4 ((fun TT C => WF [fun vals A => Sep G W (C :: TT) A, fun vals A => ∃ (q : Nat), (vals 14 = (Ix q 0 : Value)) ∧ Sep G W ((Blk q #[Iv 0, Iv 0, .bool false, (Iz)] 79) :: C :: TT) A, fun vals A => ∃ (q : Nat), (vals 14 = (Ix q 0 : Value)) ∧ Sep G W ((Blk q ((((d.types.getD e.typ.toNat default).fields).getD e.field.toNat default).cells (zi W (sb (zi W (sb g) (so g + e.typ.toNat * 1 + 0))) (so (zi W (sb g) (so g + e.typ.toNat * 1 + 0)) + e.field.toNat * 4 + 3))).toArray 79) :: C :: TT) A]) ((Blk l (e.cells de0).toArray 59) :: Rs) (Blk B #[Iv 0, Iv 0] 57)) (AF [Vl 0 (Ix b 0), Vl 1 (Ix b 0), Vl 2 (Ix b 0), Vl 3 (Ix b 0), Vl 4 (g), Vl 5 (Ix l 4), Vl 6 (Iv (e.typ)), Vl 7 (Ix (sb g) (so g + e.typ.toNat * 1)), Vl 8 (Ix (sb g) (so g + e.typ.toNat * 1)), Vl 9 ((zi W (sb g) (so g + e.typ.toNat * 1 + 0))), Vl 10 (Ix l 6), Vl 11 (Iv (e.field)), Vl 12 (Ix (sb (zi W (sb g) (so g + e.typ.toNat * 1 + 0))) (so (zi W (sb g) (so g + e.typ.toNat * 1 + 0)) + e.field.toNat * 4)), Vl 13 (.agg ((((d.types.getD e.typ.toNat default).fields).getD e.field.toNat default).cells (zi W (sb (zi W (sb g) (so g + e.typ.toNat * 1 + 0))) (so (zi W (sb g) (so g + e.typ.toNat * 1 + 0)) + e.field.toNat * 4 + 3))).toArray), fun _ => True, fun _ => True]) [[], [0], [0, 1], [0, 1, 2], (rg 4), [], [5], (rg 7), (rg 8), (rg 9), [], [10], (rg 12), (rg 13), [], (rg 15)] [14, 15] [(0, 1), (0, 1), (0, 1), (0, 1), (0, 1), (0, 1), (0, 1), (0, 1), (0, 1), (0, 1), (0, 1), (0, 1), (0, 1), (0, 1), (0, 0), (1, 1)] aY ⟨?_, ?_, ?_, ?_, ?_, ?_, ?_, ?_, ?_, ?_, ?_, ?_, ?_, ?_, ?_, ?_, trivial⟩ ?_
 exact fun _ _ _ _ _ _ _ => obl rfl (zb (v := Ix b 0) rfl dR)
 exact fun _ _ _ _ _ _ fk => obl rfl (zH (b := b) (o := 0) (fk 0 dc) dR)
 exact fun _ _ _ _ _ _ fl => obl rfl (Zo (fl 1 dc) dR)
 exact fun _ _ _ _ _ _ fm => obl rfl (yo (fm 2 dc) dR)
 refine fun aZ _ _ gI gJ cg ch => ?_
 have hkk : aZ = 0 ∨ aZ = 1 := by have h1 : 0 ≤ aZ := gI; have h2 : aZ ≤ 1 := gJ; omega
 rcases hkk with rfl | rfl
 have fn : Sep _ _ _ _ := cg
 exact obl rfl (zg (v := g) Tryd.isAgg22 (ch 3 dc) (zh (fn.gblk ae) rfl) dR)
 obtain ⟨q, D, fo⟩ := cg
 exact obl rfl (zg (v := g) Tryd.isAgg22 (ch 3 dc) (zh (fo.gblk ae) rfl) dR)
 exact fun _ _ _ _ _ _ _ => obl rfl (xa rfl dR)
 refine fun ba _ _ gK gL ci cj => ?_
 have hkk : ba = 0 ∨ ba = 1 := by have h1 : 0 ≤ ba := gK; have h2 : ba ≤ 1 := gL; omega
 rcases hkk with rfl | rfl
 have fp : Sep _ _ _ _ := ci
 exact obl rfl (zg (v := Iv (e.typ)) Tryd.isAgg3 (cj 5 dc) (zh (fp.blk (i := 1) rfl) rfl) dR)
 obtain ⟨q, D, fq⟩ := ci
 exact obl rfl (zg (v := Iv (e.typ)) Tryd.isAgg3 (cj 5 dc) (zh (fq.blk (i := 2) rfl) rfl) dR)
 refine fun bb _ _ gM gN ck aq => ?_
 have hkk : bb = 0 ∨ bb = 1 := by have h1 : 0 ≤ bb := gM; have h2 : bb ≤ 1 := gN; omega
 rcases hkk with rfl | rfl
 have hS436 : Sep _ _ _ _ := ck
 refine obl rfl ?_
 have hi439 : e.typ.toNat < d.types.length := bo
 exact zz (k := 1) (i := e.typ) Tryd.underlying22 Tryd.sizeOf33 (aq 4 dc) u.sl (aq 6 dc) ⟨by omega, by omega⟩ dR
 obtain ⟨q, D, hS440⟩ := ck
 refine obl rfl ?_
 have hi443 : e.typ.toNat < d.types.length := bo
 exact zz (k := 1) (i := e.typ) Tryd.underlying22 Tryd.sizeOf33 (aq 4 dc) u.sl (aq 6 dc) ⟨by omega, by omega⟩ dR
 exact fun _ _ _ _ _ _ fr => obl rfl (yA (fr 7 dc) dR)
 refine fun bc _ _ gO gP cl cm => ?_
 have hkk : bc = 0 ∨ bc = 1 := by have h1 : 0 ≤ bc := gO; have h2 : bc ≤ 1 := gP; omega
 rcases hkk with rfl | rfl
 have fs : Sep _ _ _ _ := cl
 refine obl rfl ?_
 have bd : e.typ.toNat < d.types.length := bo
 obtain ⟨bw, ay, cH⟩ := u.typ bd
 rw [← zm default bd] at bw ay cH
 have hsm461 : ((d.types.getD e.typ.toNat default).fields).length * 48 ≤ 140737488355328 := ay.small
 have cX := fs.cells bw (u.foot (ne_of_lt bd))
 exact zg (v := (zi W (sb g) (so g + e.typ.toNat * 1 + 0))) Tryd.isAgg31 (cm 8 dc) (cX.get (j := 0) rfl) dR
 obtain ⟨q, D, ft⟩ := cl
 refine obl rfl ?_
 have be : e.typ.toNat < d.types.length := bo
 obtain ⟨bx, az, cI⟩ := u.typ be
 rw [← zm default be] at bx az cI
 have hsm467 : ((d.types.getD e.typ.toNat default).fields).length * 48 ≤ 140737488355328 := az.small
 have cY := ft.cells bx (u.foot (ne_of_lt be))
 exact zg (v := (zi W (sb g) (so g + e.typ.toNat * 1 + 0))) Tryd.isAgg31 (cm 8 dc) (cY.get (j := 0) rfl) dR
 exact fun _ _ _ _ _ _ _ => obl rfl (xj rfl dR)
 refine fun bf _ _ gQ gR cn co => ?_
 have hkk : bf = 0 ∨ bf = 1 := by have h1 : 0 ≤ bf := gQ; have h2 : bf ≤ 1 := gR; omega
 rcases hkk with rfl | rfl
 have fu : Sep _ _ _ _ := cn
 exact obl rfl (zg (v := Iv (e.field)) Tryd.isAgg3 (co 10 dc) (zh (fu.blk (i := 1) rfl) rfl) dR)
 obtain ⟨q, D, fv⟩ := cn
 exact obl rfl (zg (v := Iv (e.field)) Tryd.isAgg3 (co 10 dc) (zh (fv.blk (i := 2) rfl) rfl) dR)
 refine fun bg _ _ gS gT cp ar => ?_
 have hkk : bg = 0 ∨ bg = 1 := by have h1 : 0 ≤ bg := gS; have h2 : bg ≤ 1 := gT; omega
 rcases hkk with rfl | rfl
 have fw : Sep _ _ _ _ := cp
 refine obl rfl ?_
 have bh : e.typ.toNat < d.types.length := bo
 obtain ⟨bz, Z, cJ⟩ := u.typ bh
 rw [← zm default bh] at bz Z cJ
 have hsm496 : ((d.types.getD e.typ.toNat default).fields).length * 48 ≤ 140737488355328 := Z.small
 have hcw497 := fw.cells bz (u.foot (ne_of_lt bh))
 have hi498 : e.field.toNat < ((d.types.getD e.typ.toNat default).fields).length := bo
 exact zz (k := 4) (i := e.field) Tryd.underlying31 Tryd.sizeOf79 (ar 9 dc) Z.sl (ar 11 dc) ⟨by omega, by omega⟩ dR
 obtain ⟨q, D, fx⟩ := cp
 refine obl rfl ?_
 have bi : e.typ.toNat < d.types.length := bo
 obtain ⟨bA, aa, cK⟩ := u.typ bi
 rw [← zm default bi] at bA aa cK
 have hsm504 : ((d.types.getD e.typ.toNat default).fields).length * 48 ≤ 140737488355328 := aa.small
 have hcw505 := fx.cells bA (u.foot (ne_of_lt bi))
 have hi506 : e.field.toNat < ((d.types.getD e.typ.toNat default).fields).length := bo
 exact zz (k := 4) (i := e.field) Tryd.underlying31 Tryd.sizeOf79 (ar 9 dc) aa.sl (ar 11 dc) ⟨by omega, by omega⟩ dR
 refine fun bj _ _ gU gV cq cr => ?_
 have hkk : bj = 0 ∨ bj = 1 := by have h1 : 0 ≤ bj := gU; have h2 : bj ≤ 1 := gV; omega
 rcases hkk with rfl | rfl
 have ct : Sep _ _ _ _ := cq
 refine obl rfl ?_
 have bk : e.typ.toNat < d.types.length := bo
 obtain ⟨bB, N, cL⟩ := u.typ bk
 rw [← zm default bk] at bB N cL
 have hsm518 : ((d.types.getD e.typ.toNat default).fields).length * 48 ≤ 140737488355328 := N.small
 have hcw519 := ct.cells bB (u.foot (ne_of_lt bk))
 have bl : e.field.toNat < ((d.types.getD e.typ.toNat default).fields).length := bo
 obtain ⟨bC, aA, cM⟩ := N.fld bl
 rw [← zm default bl] at bC aA cM
 have hsm521 : ((((d.types.getD e.typ.toNat default).fields).getD e.field.toNat default).moves).length * 32 ≤ 140737488355328 := aA.small
 have cZ := ct.cells bC (N.foot (ne_of_lt bl))
 exact zl (k := 4) Tryd.isAgg79 Tryd.sizeOf79 rfl (cr 12 dc) cZ dR
 obtain ⟨q, D, cu⟩ := cq
 refine obl rfl ?_
 have bm : e.typ.toNat < d.types.length := bo
 obtain ⟨bD, O, cN⟩ := u.typ bm
 rw [← zm default bm] at bD O cN
 have hsm528 : ((d.types.getD e.typ.toNat default).fields).length * 48 ≤ 140737488355328 := O.small
 have hcw529 := cu.cells bD (u.foot (ne_of_lt bm))
 have bn : e.field.toNat < ((d.types.getD e.typ.toNat default).fields).length := bo
 obtain ⟨bE, aB, cO⟩ := O.fld bn
 rw [← zm default bn] at bE aB cO
 have hsm531 : ((((d.types.getD e.typ.toNat default).fields).getD e.field.toNat default).moves).length * 32 ≤ 140737488355328 := aB.small
 have da := cu.cells bE (O.foot (ne_of_lt bn))
 exact zl (k := 4) Tryd.isAgg79 Tryd.sizeOf79 rfl (cr 12 dc) da dR
 refine ob1 0 fun _ _ (fy : Sep _ _ _ _) _ => (obl rfl ((zB Tryd.zeroValue79 ?_)))
 intro w355 q fz
 have fA := fy.new fz
 exact fun E T M => ⟨(Exists.intro q (And.intro T fA)), trivial⟩
 refine ob1 1 fun _ _ fB fC => ?_
 obtain ⟨q, D, au⟩ := fB
 refine obl rfl ?_
 have bp : e.typ.toNat < d.types.length := bo
 obtain ⟨bF, P, cP⟩ := u.typ bp
 rw [← zm default bp] at bF P cP
 have hsm371 : ((d.types.getD e.typ.toNat default).fields).length * 48 ≤ 140737488355328 := P.small
 have hcw372 := au.cells bF (u.foot (ne_of_lt bp))
 have bq : e.field.toNat < ((d.types.getD e.typ.toNat default).fields).length := bo
 obtain ⟨bG, ab, cQ⟩ := P.fld bq
 rw [← zm default bq] at bG ab cQ
 have hsm374 : ((((d.types.getD e.typ.toNat default).fields).getD e.field.toNat default).moves).length * 32 ≤ 140737488355328 := ab.small
 have hcw375 := au.cells bG (P.foot (ne_of_lt bq))
 refine (zy (v := .agg ((((d.types.getD e.typ.toNat default).fields).getD e.field.toNat default).cells (zi W (sb (zi W (sb g) (so g + e.typ.toNat * 1 + 0))) (so (zi W (sb g) (so g + e.typ.toNat * 1 + 0)) + e.field.toNat * 4 + 3))).toArray) (c' := ((((d.types.getD e.typ.toNat default).fields).getD e.field.toNat default).cells (zi W (sb (zi W (sb g) (so g + e.typ.toNat * 1 + 0))) (so (zi W (sb g) (so g + e.typ.toNat * 1 + 0)) + e.field.toNat * 4 + 3))).toArray) Tryd.sizeOf79 D (fC 13 dc) (au.blk (i := 0) rfl) (ya ⟨rfl, rfl, rfl, ab.sl.one, trivial⟩) (Nat.le_of_ble_eq_true rfl) rfl ?_)
 intro w366 fE
 have fF := au.pt0 fE
 exact fun E T M => ⟨(Exists.intro q (And.intro ((M 14 dc).trans D) fF)), trivial⟩
 intro vals w533 fG hA535
 obtain ⟨q, D, fH⟩ := fG
 refine yf (kv := [(0, Ix b 0), (1, .agg (e.cells de0).toArray), (3, Ix l 0), (4, .bool false), (5, Ix B 0), (25, .bool false), (6, Ix q 0)]) ⟨rfl, rfl, rfl, rfl, rfl, rfl, (by exact D), trivial⟩ (fun ρw533 => (zf (zd (zd (za kr (fun _ => (st (ze (v := Iv 0) rfl (zf (zw ?_))))))))))
 refine yd (fun mq σ A => ∃ (k : Nat) (ρ : Env), mq = L.length - k ∧ σ = yh ρ [(0, Ix b 0), (3, Ix l 0), (4, .bool false), (5, Ix B 0), (6, Ix q 0), (7, Iw k)] ∧ (k ≤ L.length) ∧ (∀ i, i < k → rJ d e (L.getD i default) = false) ∧ Sep G W ((Blk q ((((d.types.getD e.typ.toNat default).fields).getD e.field.toNat default).cells (zi W (sb (zi W (sb g) (so g + e.typ.toNat * 1 + 0))) (so (zi W (sb g) (so g + e.typ.toNat * 1 + 0)) + e.field.toNat * 4 + 3))).toArray 79) :: (Blk B #[Iv 0, Iv 0] 57) :: (Blk l (e.cells de0).toArray 59) :: Rs) A) ⟨0, _, rfl, zq ⟨rfl, rfl, rfl, rfl, rfl, rfl, trivial⟩, Nat.zero_le _, (fun i h => absurd h (Nat.not_lt_zero i)), fH⟩ ?_
 rintro m538 σ539 w537 ⟨k, ρl1, rfl, rfl, hkk, hno, Q⟩
 refine zd (zd (za kr (fun _ => (st (zb (v := Iw k) rfl (st (zb (v := Ix b 0) rfl (st (zH (b := b) (o := 0) rfl (st (xI rfl (st (zg (v := s) Tryd.isAgg66 rfl (zh (Q.gblk ae) rfl) (st (zJ (n := L.length) Tryd.underlying66 rfl ax.sl (st (zL (k := .i64) (a := ((k : Nat) : Int)) (b := ((L.length : Nat) : Int)) rfl rfl (zf ?_))))))))))))))))))
 cases ag : decide (((k : Nat) : Int) < ((L.length : Nat) : Int))
 have hc541r := ag
 have ag := fD ag
 have hT := US (L := L) hfz (fun i hi => hno i om)
 refine zn rfl (yc (zU (zd (za kr (fun _ => (st (zb (v := Ix b 0) rfl (st (xa rfl (st (zg (v := Iv (e.typ)) Tryd.isAgg3 rfl (zh (Q.blk (i := 2) rfl) rfl) (st (xZ rfl (st (zg (v := Iv (e.agg)) Tryd.isAgg3 rfl (zh (Q.blk (i := 2) rfl) rfl) (st (zu (f := 33) (vals := [Ix b 0, Iv (e.typ), Iv (e.agg)]) (cap := []) rfl rfl Tryd.call33 (ZU (ty := e.typ) (no := e.agg) hb oe.typ oe.agg Q (hd) (hrl) (hml)) ?_)))))))))))))))))
 rintro _ w543 ⟨m, rfl, cv⟩
 have cw := cv.row (i := 0) rfl
 have hr545s : _ * 32 ≤ _ := cw.2
 refine st (zb (v := .tuple #[.agg ((yb d (e.typ, e.agg) L).cells m).toArray, .bool ((zp d L (e.typ, e.agg)).isSome)]) rfl (st (zE (vs := [.agg ((yb d (e.typ, e.agg) L).cells m).toArray, .bool ((zp d L (e.typ, e.agg)).isSome)]) (i := 0) (v := .agg ((yb d (e.typ, e.agg) L).cells m).toArray) rfl rfl (st (zE (vs := [.agg ((yb d (e.typ, e.agg) L).cells m).toArray, .bool ((zp d L (e.typ, e.agg)).isSome)]) (i := 1) (v := .bool ((zp d L (e.typ, e.agg)).isSome)) rfl rfl (st (zB Tryd.zeroValue68 ?_)))))))
 intro w548 R fI
 have cx := cv.new fI
 refine stn (zy (v := .agg ((yb d (e.typ, e.agg) L).cells m).toArray) (c' := ((yb d (e.typ, e.agg) L).cells m).toArray) Tryd.sizeOf68 rfl rfl (cx.blk (i := 0) rfl) (ya ⟨rfl, cw.1.one, trivial⟩) (Nat.le_of_ble_eq_true rfl) rfl ?_)
 intro w550 fJ
 have br := cx.pt0 fJ
 refine st (ze (v := .bool ((zp d L (e.typ, e.agg)).isSome)) rfl (zf (zd (za kr (fun _ => (st (yF rfl (st (zg (v := m) Tryd.isAgg26 rfl (zh (br.blk (i := 0) rfl) rfl) (st (ze (v := m) rfl (zf (zd (zd (za kr (fun _ => (st (zb (v := .bool ((zp d L (e.typ, e.agg)).isSome)) rfl (st (yt (a := (zp d L (e.typ, e.agg)).isSome) rfl (zf ?_)))))))))))))))))))))
 cases I : !((zp d L (e.typ, e.agg)).isSome)
 have aC := I
 try simp only [zj] at I
 have aD : (zp d L (e.typ, e.agg)).isSome = true := by simpa using aC
 replace I := aD
 refine zn rfl (zv (zd ?_))
 have bs := br.mv1
 rw [show (stL d (e.typ, e.agg) L) = (zW d (e.typ, e.agg) L) from if_neg (WT I)] at bs
 have fK := bs.row (i := 0) rfl
 have hr555s : _ * 32 ≤ _ := fK.2
 refine WD4 ((fun TT C => WF [fun vals A => Sep G W (C :: TT) A, fun vals A => (vals 16 = (Iv ((yU (d.types.getD e.typ.toNat default) (zW d (e.typ, e.agg) L) e.field e.op e.arg)) : Value)) ∧ Sep G W (C :: TT) A, fun vals A => (vals 16 = (Iv ((yU (d.types.getD e.typ.toNat default) (zW d (e.typ, e.agg) L) e.field e.op e.arg)) : Value)) ∧ Sep G W (C :: TT) A]) ((Blk R ((yb d (e.typ, e.agg) L).cells m).toArray 68) :: (Blk q ((((d.types.getD e.typ.toNat default).fields).getD e.field.toNat default).cells (zi W (sb (zi W (sb g) (so g + e.typ.toNat * 1 + 0))) (so (zi W (sb g) (so g + e.typ.toNat * 1 + 0)) + e.field.toNat * 4 + 3))).toArray 79) :: (Blk B #[Iv 0, Iv 0] 57) :: (Blk l (e.cells de0).toArray 59) :: Rs) (RowE (α := Cel) own 42 m (zW d (e.typ, e.agg) L))) (AF [Vl 0 (Ix b 0), Vl 1 (Ix b 0), Vl 2 (Ix b 0), Vl 3 (Ix b 0), Vl 4 (g), Vl 5 (Ix l 4), Vl 6 (Iv (e.typ)), Vl 7 (Ix (sb g) (so g + e.typ.toNat * 1)), Vl 8 (.agg ((d.types.getD e.typ.toNat default).cells (zi W (sb g) (so g + e.typ.toNat * 1 + 0))).toArray), Vl 9 (m), Vl 10 (Ix l 6), Vl 11 (Iv (e.field)), Vl 12 (Ix l 7), Vl 13 (Iv (e.op)), Vl 14 (Ix l 8), Vl 15 (Iv (e.arg)), fun _ => True, Vl 17 (.bool (!decide ((yU (d.types.getD e.typ.toNat default) (zW d (e.typ, e.agg) L) e.field e.op e.arg) = 0))), Vl 18 (.agg #[Iv 0, Iv 0]), Vl 19 (.bool (!decide ((yU (d.types.getD e.typ.toNat default) (zW d (e.typ, e.agg) L) e.field e.op e.arg) = 0))), fun _ => True]) [[], [0], [0, 1], [0, 1, 2], (rg 4), [], [5], (rg 7), (rg 8), [], [], [10], [], [12], [], [14], (rg 16), (rg 17), [], (rg 18), (rg 20)] [16, 20] [(0, 0), (0, 0), (0, 0), (0, 0), (0, 0), (0, 0), (0, 0), (0, 0), (0, 0), (0, 0), (0, 0), (0, 0), (0, 0), (0, 0), (0, 0), (0, 0), (0, 0), (1, 1), (0, 1), (1, 1), (1, 1)] bs ⟨?_, ?_, ?_, ?_, ?_, ?_, ?_, ?_, ?_, ?_, ?_, ?_, ?_, ?_, ?_, ?_, ?_, ?_, ?_, ?_, ?_, trivial⟩ ?_
 exact fun _ _ _ _ _ _ _ => obl rfl (zb (v := Ix b 0) rfl dR)
 exact fun _ _ _ _ _ _ fL => obl rfl (zH (b := b) (o := 0) (fL 0 dc) dR)
 exact fun _ _ _ _ _ _ fM => obl rfl (Zo (fM 1 dc) dR)
 exact fun _ _ _ _ _ _ fN => obl rfl (yo (fN 2 dc) dR)
 exact ob1 0 fun _ _ (fO : Sep _ _ _ _) fP => obl rfl (zg (v := g) Tryd.isAgg22 (fP 3 dc) (zh (fO.gblk ae) rfl) dR)
 exact fun _ _ _ _ _ _ _ => obl rfl (xa rfl dR)
 exact ob1 0 fun _ _ (fQ : Sep _ _ _ _) fR => obl rfl (zg (v := Iv (e.typ)) Tryd.isAgg3 (fR 5 dc) (zh (fQ.blk (i := 4) rfl) rfl) dR)
 refine ob1 0 fun _ _ _ cy => (obl rfl ?_)
 have hi791 : e.typ.toNat < d.types.length := bo
 exact zz (k := 1) (i := e.typ) Tryd.underlying22 Tryd.sizeOf33 (cy 4 dc) u.sl (cy 6 dc) ⟨by omega, by omega⟩ dR
 refine ob1 0 fun _ _ (fS : Sep _ _ _ _) fT => (obl rfl ?_)
 have bt : e.typ.toNat < d.types.length := bo
 obtain ⟨bH, aE, cS⟩ := u.typ bt
 rw [← zm default bt] at bH aE cS
 have hsm802 : ((d.types.getD e.typ.toNat default).fields).length * 48 ≤ 140737488355328 := aE.small
 have db := fS.cells bH (u.foot (ne_of_lt bt))
 exact zl (k := 1) Tryd.isAgg33 Tryd.sizeOf33 rfl (fT 7 dc) db dR
 exact fun _ _ _ _ _ _ _ => obl rfl (zb (v := m) rfl dR)
 exact fun _ _ _ _ _ _ _ => obl rfl (xj rfl dR)
 exact ob1 0 fun _ _ (fU : Sep _ _ _ _) fV => obl rfl (zg (v := Iv (e.field)) Tryd.isAgg3 (fV 10 dc) (zh (fU.blk (i := 4) rfl) rfl) dR)
 exact fun _ _ _ _ _ _ _ => obl rfl (xo rfl dR)
 exact ob1 0 fun _ _ (fW : Sep _ _ _ _) fX => obl rfl (zg (v := Iv (e.op)) Tryd.isAgg3 (fX 12 dc) (zh (fW.blk (i := 4) rfl) rfl) dR)
 exact fun _ _ _ _ _ _ _ => obl rfl (xe rfl dR)
 exact ob1 0 fun _ _ (fY : Sep _ _ _ _) fZ => obl rfl (zg (v := Iv (e.arg)) Tryd.isAgg3 (fZ 14 dc) (zh (fY.blk (i := 4) rfl) rfl) dR)
 refine ob1 0 fun vals _ (cz : Sep _ _ _ _) ah => (obl rfl ?_)
 have bu : e.typ.toNat < d.types.length := bo
 obtain ⟨bI, ac, aQ⟩ := u.typ bu
 rw [← zm default bu] at bI ac aQ
 have hsm689 : ((d.types.getD e.typ.toNat default).fields).length * 48 ≤ 140737488355328 := ac.small
 have hcw690 := cz.cells bI (u.foot (ne_of_lt bu))
 obtain ⟨G691, ga, gc, gd, ge⟩ := cz.lend
 have bJ := RowE.rd ga
 have hrd697s : _ * 32 ≤ _ := bJ.small
 refine (zu (f := 91) (vals := [.agg ((d.types.getD e.typ.toNat default).cells (zi W (sb g) (so g + e.typ.toNat * 1 + 0))).toArray, m, Iv (e.field), Iv (e.op), Iv (e.arg)]) (cap := []) rfl (yP ⟨(ah 8 dc), (ah 9 dc), (ah 11 dc), (ah 13 dc), (ah 15 dc), trivial⟩) Tryd.call91 (WC (t := (d.types.getD e.typ.toNat default)) (c := (zW d (e.typ, e.agg) L)) (vc := m) (fi := e.field) (op := e.op) (arg := e.arg) (RdS.base ac gc) aQ bJ oe.field oe.op oe.arg gd ((hft.ask (hd.typ _ om) (hrl.inv hd e.typ e.agg gA gB)))) ?_)
 rintro _ w698 ⟨rfl, gf⟩
 have gg := ge _ _ gf
 exact fun E T M => ⟨(And.intro T gg), trivial⟩
 refine ob1 1 fun _ _ gh _ => ?_
 obtain ⟨av, hS858⟩ := gh
 exact obl rfl (yq (k := .i64) (a := (yU (d.types.getD e.typ.toNat default) (zW d (e.typ, e.agg) L) e.field e.op e.arg)) (b := 0) av rfl dR)
 exact fun _ _ _ _ _ _ _ => obl rfl (zQ (parts' := []) (v := .agg #[Iv 0, Iv 0]) rfl (by simp [Instr.build, Instr.fill, Ev.cells, go_sem, Mv.cells, Fld.cells, Typ.cells, Prj.cells, Dcl.cells, Cel.cells, AskR.cells, Ask.cells, CelS.cells, Ev.cells, Ent.cells, Sta.cells]) dR)
 exact fun _ _ _ _ _ _ gi => obl rfl (ze (v := .bool (!decide ((yU (d.types.getD e.typ.toNat default) (zW d (e.typ, e.agg) L) e.field e.op e.arg) = 0))) (gi 17 dc) dR)
 refine ob1 1 fun _ _ gj gk => ?_
 obtain ⟨av, cA⟩ := gj
 refine obl rfl ((zy (v := .agg #[Iv 0, Iv 0]) (c' := #[Iv 0, Iv 0]) Tryd.sizeOf57 rfl (gk 18 dc) (cA.blk (i := 3) rfl) (ya ⟨rfl, rfl, trivial⟩) (Nat.le_of_ble_eq_true rfl) rfl ?_))
 intro w730 gl
 have gm := cA.pt3 gl
 exact fun E T M => ⟨(And.intro ((M 16 dc).trans av) gm), trivial⟩
 intro vals gW gn go
 obtain ⟨av, cB⟩ := gn
 have gX := go 19 dc
 refine yf (kv := [(0, Ix b 0), (3, Ix l 0), (4, .bool (!decide ((yU (d.types.getD e.typ.toNat default) (zW d (e.typ, e.agg) L) e.field e.op e.arg) = 0))), (5, Ix B 0), (6, Ix q 0), (7, Iw k), (41, Iw k), (42, Ix b 0), (43, Ix b 0), (44, Ix b 2), (45, s), (46, Iw L.length), (47, .bool false), (97, Ix b 0), (98, Ix l 4), (99, Iv (e.typ)), (100, Ix l 5), (101, Iv (e.agg)), (102, .tuple #[.agg ((yb d (e.typ, e.agg) L).cells m).toArray, .bool ((zp d L (e.typ, e.agg)).isSome)]), (96, .tuple #[.agg ((yb d (e.typ, e.agg) L).cells m).toArray, .bool ((zp d L (e.typ, e.agg)).isSome)]), (103, .agg ((yb d (e.typ, e.agg) L).cells m).toArray), (104, .bool ((zp d L (e.typ, e.agg)).isSome)), (9, Ix R 0), (10, .bool ((zp d L (e.typ, e.agg)).isSome)), (105, Ix R 1), (106, m), (11, m), (107, .bool ((zp d L (e.typ, e.agg)).isSome)), (108, .bool false)]) ⟨rfl, rfl, (by exact gX), rfl, rfl, rfl, rfl, rfl, rfl, rfl, rfl, rfl, rfl, rfl, rfl, rfl, rfl, rfl, rfl, rfl, rfl, rfl, rfl, rfl, rfl, rfl, rfl, rfl, rfl, trivial⟩ (fun ρw872 => ?_)
 refine zf (zt (Zx (b := B) Tryd.results61 Tryd.isAgg57 Tryd.sizeOf57 rfl rfl (CellsAt.all (cB.blk (i := 3) rfl)) (show _ = (.bool (!decide ((yU (d.types.getD e.typ.toNat default) (zW d (e.typ, e.agg) L) e.field e.op e.arg) = 0)) : Value) from rfl) ?_))
 have gp : Sep G W Rs gW := cB.sel 5 [] (Nat.le_add_left _ _) rfl rfl
 rw [hT]
 refine ⟨rfl, ?_, gp⟩
 exact ⟨(by decide : InR 0), (by decide : InR 0)⟩
 have aC := I
 try simp only [zj] at I
 have aD : (zp d L (e.typ, e.agg)).isSome = false := by simpa using aC
 replace I := aD
 refine zo rfl ?_
 refine WD4 ((fun TT C => WF [fun vals A => Sep G W (C :: TT) A, fun vals A => ∃ (z : Value), (vals 9 = (z : Value)) ∧ Sep G W ((RowE (α := Cel) own 42 z (List.replicate (d.types.getD e.typ.toNat default).fields.length (⟨0, []⟩ : Cel))) :: C :: TT) A]) ((RowE (α := Cel) own 42 m (stL d (e.typ, e.agg) L)) :: (Blk q ((((d.types.getD e.typ.toNat default).fields).getD e.field.toNat default).cells (zi W (sb (zi W (sb g) (so g + e.typ.toNat * 1 + 0))) (so (zi W (sb g) (so g + e.typ.toNat * 1 + 0)) + e.field.toNat * 4 + 3))).toArray 79) :: (Blk B #[Iv 0, Iv 0] 57) :: (Blk l (e.cells de0).toArray 59) :: Rs) (Blk R ((yb d (e.typ, e.agg) L).cells m).toArray 68)) (AF [Vl 0 (Ix b 0), Vl 1 (Ix b 0), Vl 2 (Ix b 0), Vl 3 (Ix b 0), Vl 4 (g), Vl 5 (Ix l 4), Vl 6 (Iv (e.typ)), Vl 7 (Ix (sb g) (so g + e.typ.toNat * 1)), Vl 8 (.agg ((d.types.getD e.typ.toNat default).cells (zi W (sb g) (so g + e.typ.toNat * 1 + 0))).toArray), fun _ => True, fun vals => ∀ (z : Value), vals 9 = (z : Value) → vals 10 = (z : Value)]) [[], [0], [0, 1], [0, 1, 2], (rg 4), [], [5], (rg 7), (rg 8), (rg 9), (rg 10)] [9] [(0, 0), (0, 0), (0, 0), (0, 0), (0, 0), (0, 0), (0, 0), (0, 0), (0, 0), (0, 0), (1, 1)] br ⟨?_, ?_, ?_, ?_, ?_, ?_, ?_, ?_, ?_, ?_, ?_, trivial⟩ ?_ (hlocA := yZ ⟨dA, dA, dA, dA, dA, dA, dA, dA, dA, dT, fun vals E T h => fun z cC => (T 10 (.inl rfl)).trans (h z ((T 9 (.inr dc)).symm.trans cC)), trivial⟩)
 exact fun _ _ _ _ _ _ _ => obl rfl (zb (v := Ix b 0) rfl dR)
 exact fun _ _ _ _ _ _ gq => obl rfl (zH (b := b) (o := 0) (gq 0 dc) dR)
 exact fun _ _ _ _ _ _ gr => obl rfl (Zo (gr 1 dc) dR)
 exact fun _ _ _ _ _ _ gs => obl rfl (yo (gs 2 dc) dR)
 exact ob1 0 fun _ _ (dd : Sep _ _ _ _) de => obl rfl (zg (v := g) Tryd.isAgg22 (de 3 dc) (zh (dd.gblk ae) rfl) dR)
 exact fun _ _ _ _ _ _ _ => obl rfl (xa rfl dR)
 exact ob1 0 fun _ _ (df : Sep _ _ _ _) dg => obl rfl (zg (v := Iv (e.typ)) Tryd.isAgg3 (dg 5 dc) (zh (df.blk (i := 4) rfl) rfl) dR)
 refine ob1 0 fun _ _ _ bK => (obl rfl ?_)
 have hi1031 : e.typ.toNat < d.types.length := bo
 exact zz (k := 1) (i := e.typ) Tryd.underlying22 Tryd.sizeOf33 (bK 4 dc) u.sl (bK 6 dc) ⟨by omega, by omega⟩ dR
 refine ob1 0 fun _ _ (dh : Sep _ _ _ _) di => (obl rfl ?_)
 have aF : e.typ.toNat < d.types.length := bo
 obtain ⟨aR, ao, cb⟩ := u.typ aF
 rw [← zm default aF] at aR ao cb
 have hsm1042 : ((d.types.getD e.typ.toNat default).fields).length * 48 ≤ 140737488355328 := ao.small
 have cT := dh.cells aR (u.foot (ne_of_lt aF))
 exact zl (k := 1) Tryd.isAgg33 Tryd.sizeOf33 rfl (di 7 dc) cT dR
 refine ob1 0 fun vals _ (cD : Sep _ _ _ _) gt => (obl rfl ?_)
 have bv : e.typ.toNat < d.types.length := bo
 obtain ⟨bL, ad, aS⟩ := u.typ bv
 rw [← zm default bv] at bL ad aS
 have hsm959 : ((d.types.getD e.typ.toNat default).fields).length * 48 ≤ 140737488355328 := ad.small
 have hcw960 := cD.cells bL (u.foot (ne_of_lt bv))
 refine (zu (f := 64) (vals := [.agg ((d.types.getD e.typ.toNat default).cells (zi W (sb g) (so g + e.typ.toNat * 1 + 0))).toArray]) (cap := []) rfl (yP ⟨(gt 8 dc), trivial⟩) Tryd.call64 (Xo (t := (d.types.getD e.typ.toNat default)) ad aS cD) ?_)
 rintro z w962 ⟨_, rfl, cE⟩
 have gu := cE.row (i := 0) rfl
 have hr964s : _ * 32 ≤ _ := gu.2
 exact fun E T M => ⟨(Exists.intro z (And.intro T cE)), trivial⟩
 refine ob1 1 fun _ _ dj _ => ?_
 obtain ⟨z, aw, hS1050⟩ := dj
 refine obl rfl (ze (v := z) aw (fun E T M => ⟨rfl, ?_⟩))
 intro v961q cC
 rw [M 9 (by decide)] at cC; cases aw.symm.trans cC
 exact T
 intro vals w1051 dk dl
 obtain ⟨z, aw, aG⟩ := dk
 have gv : vals 10 = (z : Value) := dl 10 dc z aw
 refine yf (kv := [(0, Ix b 0), (3, Ix l 0), (4, .bool false), (5, Ix B 0), (6, Ix q 0), (7, Iw k), (41, Iw k), (42, Ix b 0), (43, Ix b 0), (44, Ix b 2), (45, s), (46, Iw L.length), (47, .bool false), (97, Ix b 0), (98, Ix l 4), (99, Iv (e.typ)), (100, Ix l 5), (101, Iv (e.agg)), (102, .tuple #[.agg ((yb d (e.typ, e.agg) L).cells m).toArray, .bool ((zp d L (e.typ, e.agg)).isSome)]), (96, .tuple #[.agg ((yb d (e.typ, e.agg) L).cells m).toArray, .bool ((zp d L (e.typ, e.agg)).isSome)]), (103, .agg ((yb d (e.typ, e.agg) L).cells m).toArray), (104, .bool ((zp d L (e.typ, e.agg)).isSome)), (9, Ix R 0), (10, .bool ((zp d L (e.typ, e.agg)).isSome)), (105, Ix R 1), (106, m), (11, z), (107, .bool ((zp d L (e.typ, e.agg)).isSome)), (108, .bool true)]) ⟨rfl, rfl, rfl, rfl, rfl, rfl, rfl, rfl, rfl, rfl, rfl, rfl, rfl, rfl, rfl, rfl, rfl, rfl, rfl, rfl, rfl, rfl, rfl, rfl, rfl, rfl, (by exact gv), rfl, rfl, trivial⟩ (fun ρw1051 => ?_)
 refine zf (zd ?_)
 rw [show (List.replicate (d.types.getD e.typ.toNat default).fields.length (⟨0, []⟩ : Cel)) = (zW d (e.typ, e.agg) L) from (UF (d := d) (WL I)).symm] at aG
 have dm := aG.row (i := 0) rfl
 have hr1056s : _ * 32 ≤ _ := dm.2
 refine WD4 ((fun TT C => WF [fun vals A => Sep G W (C :: TT) A, fun vals A => (vals 16 = (Iv ((yU (d.types.getD e.typ.toNat default) (zW d (e.typ, e.agg) L) e.field e.op e.arg)) : Value)) ∧ Sep G W (C :: TT) A, fun vals A => (vals 16 = (Iv ((yU (d.types.getD e.typ.toNat default) (zW d (e.typ, e.agg) L) e.field e.op e.arg)) : Value)) ∧ Sep G W (C :: TT) A]) ((Blk R ((yb d (e.typ, e.agg) L).cells m).toArray 68) :: (RowE (α := Cel) own 42 m (stL d (e.typ, e.agg) L)) :: (Blk q ((((d.types.getD e.typ.toNat default).fields).getD e.field.toNat default).cells (zi W (sb (zi W (sb g) (so g + e.typ.toNat * 1 + 0))) (so (zi W (sb g) (so g + e.typ.toNat * 1 + 0)) + e.field.toNat * 4 + 3))).toArray 79) :: (Blk B #[Iv 0, Iv 0] 57) :: (Blk l (e.cells de0).toArray 59) :: Rs) (RowE (α := Cel) own 42 z (zW d (e.typ, e.agg) L))) (AF [Vl 0 (Ix b 0), Vl 1 (Ix b 0), Vl 2 (Ix b 0), Vl 3 (Ix b 0), Vl 4 (g), Vl 5 (Ix l 4), Vl 6 (Iv (e.typ)), Vl 7 (Ix (sb g) (so g + e.typ.toNat * 1)), Vl 8 (.agg ((d.types.getD e.typ.toNat default).cells (zi W (sb g) (so g + e.typ.toNat * 1 + 0))).toArray), Vl 9 (z), Vl 10 (Ix l 6), Vl 11 (Iv (e.field)), Vl 12 (Ix l 7), Vl 13 (Iv (e.op)), Vl 14 (Ix l 8), Vl 15 (Iv (e.arg)), fun _ => True, Vl 17 (.bool (!decide ((yU (d.types.getD e.typ.toNat default) (zW d (e.typ, e.agg) L) e.field e.op e.arg) = 0))), Vl 18 (.agg #[Iv 0, Iv 0]), Vl 19 (.bool (!decide ((yU (d.types.getD e.typ.toNat default) (zW d (e.typ, e.agg) L) e.field e.op e.arg) = 0))), fun _ => True]) [[], [0], [0, 1], [0, 1, 2], (rg 4), [], [5], (rg 7), (rg 8), [], [], [10], [], [12], [], [14], (rg 16), (rg 17), [], (rg 18), (rg 20)] [16, 20] [(0, 0), (0, 0), (0, 0), (0, 0), (0, 0), (0, 0), (0, 0), (0, 0), (0, 0), (0, 0), (0, 0), (0, 0), (0, 0), (0, 0), (0, 0), (0, 0), (0, 0), (1, 1), (0, 1), (1, 1), (1, 1)] aG ⟨?_, ?_, ?_, ?_, ?_, ?_, ?_, ?_, ?_, ?_, ?_, ?_, ?_, ?_, ?_, ?_, ?_, ?_, ?_, ?_, ?_, trivial⟩ ?_
 exact fun _ _ _ _ _ _ _ => obl rfl (zb (v := Ix b 0) rfl dR)
 exact fun _ _ _ _ _ _ dp => obl rfl (zH (b := b) (o := 0) (dp 0 dc) dR)
 exact fun _ _ _ _ _ _ dq => obl rfl (Zo (dq 1 dc) dR)
 exact fun _ _ _ _ _ _ dr => obl rfl (yo (dr 2 dc) dR)
 exact ob1 0 fun _ _ (ds : Sep _ _ _ _) dt => obl rfl (zg (v := g) Tryd.isAgg22 (dt 3 dc) (zh (ds.gblk ae) rfl) dR)
 exact fun _ _ _ _ _ _ _ => obl rfl (xa rfl dR)
 exact ob1 0 fun _ _ (du : Sep _ _ _ _) dv => obl rfl (zg (v := Iv (e.typ)) Tryd.isAgg3 (dv 5 dc) (zh (du.blk (i := 5) rfl) rfl) dR)
 refine ob1 0 fun _ _ _ bM => (obl rfl ?_)
 have hi1292 : e.typ.toNat < d.types.length := bo
 exact zz (k := 1) (i := e.typ) Tryd.underlying22 Tryd.sizeOf33 (bM 4 dc) u.sl (bM 6 dc) ⟨by omega, by omega⟩ dR
 refine ob1 0 fun _ _ (dw : Sep _ _ _ _) dx => (obl rfl ?_)
 have aH : e.typ.toNat < d.types.length := bo
 obtain ⟨aT, ap, cc⟩ := u.typ aH
 rw [← zm default aH] at aT ap cc
 have hsm1303 : ((d.types.getD e.typ.toNat default).fields).length * 48 ≤ 140737488355328 := ap.small
 have cU := dw.cells aT (u.foot (ne_of_lt aH))
 exact zl (k := 1) Tryd.isAgg33 Tryd.sizeOf33 rfl (dx 7 dc) cU dR
 exact fun _ _ _ _ _ _ _ => obl rfl (zb (v := z) rfl dR)
 exact fun _ _ _ _ _ _ _ => obl rfl (xj rfl dR)
 exact ob1 0 fun _ _ (dy : Sep _ _ _ _) dz => obl rfl (zg (v := Iv (e.field)) Tryd.isAgg3 (dz 10 dc) (zh (dy.blk (i := 5) rfl) rfl) dR)
 exact fun _ _ _ _ _ _ _ => obl rfl (xo rfl dR)
 exact ob1 0 fun _ _ (dB : Sep _ _ _ _) dC => obl rfl (zg (v := Iv (e.op)) Tryd.isAgg3 (dC 12 dc) (zh (dB.blk (i := 5) rfl) rfl) dR)
 exact fun _ _ _ _ _ _ _ => obl rfl (xe rfl dR)
 exact ob1 0 fun _ _ (dD : Sep _ _ _ _) dE => obl rfl (zg (v := Iv (e.arg)) Tryd.isAgg3 (dE 14 dc) (zh (dD.blk (i := 5) rfl) rfl) dR)
 refine ob1 0 fun vals _ (bN : Sep _ _ _ _) U => (obl rfl ?_)
 have aI : e.typ.toNat < d.types.length := bo
 obtain ⟨aU, X, aJ⟩ := u.typ aI
 rw [← zm default aI] at aU X aJ
 have hsm1190 : ((d.types.getD e.typ.toNat default).fields).length * 48 ≤ 140737488355328 := X.small
 have hcw1191 := bN.cells aU (u.foot (ne_of_lt aI))
 obtain ⟨G1192, dF, dG, dH, dI⟩ := bN.lend
 have aV := RowE.rd dF
 have hrd1198s : _ * 32 ≤ _ := aV.small
 refine (zu (f := 91) (vals := [.agg ((d.types.getD e.typ.toNat default).cells (zi W (sb g) (so g + e.typ.toNat * 1 + 0))).toArray, z, Iv (e.field), Iv (e.op), Iv (e.arg)]) (cap := []) rfl (yP ⟨(U 8 dc), (U 9 dc), (U 11 dc), (U 13 dc), (U 15 dc), trivial⟩) Tryd.call91 (WC (t := (d.types.getD e.typ.toNat default)) (c := (zW d (e.typ, e.agg) L)) (vc := z) (fi := e.field) (op := e.op) (arg := e.arg) (RdS.base X dG) aJ aV oe.field oe.op oe.arg dH ((hft.ask (hd.typ _ om) (hrl.inv hd e.typ e.agg gA gB)))) ?_)
 rintro _ w1199 ⟨rfl, dJ⟩
 have dK := dI _ _ dJ
 exact fun E T M => ⟨(And.intro T dK), trivial⟩
 refine ob1 1 fun _ _ dL _ => ?_
 obtain ⟨ai, hS1359⟩ := dL
 exact obl rfl (yq (k := .i64) (a := (yU (d.types.getD e.typ.toNat default) (zW d (e.typ, e.agg) L) e.field e.op e.arg)) (b := 0) ai rfl dR)
 exact fun _ _ _ _ _ _ _ => obl rfl (zQ (parts' := []) (v := .agg #[Iv 0, Iv 0]) rfl (by simp [Instr.build, Instr.fill, Ev.cells, go_sem, Mv.cells, Fld.cells, Typ.cells, Prj.cells, Dcl.cells, Cel.cells, AskR.cells, Ask.cells, CelS.cells, Ev.cells, Ent.cells, Sta.cells]) dR)
 exact fun _ _ _ _ _ _ dM => obl rfl (ze (v := .bool (!decide ((yU (d.types.getD e.typ.toNat default) (zW d (e.typ, e.agg) L) e.field e.op e.arg) = 0))) (dM 17 dc) dR)
 refine ob1 1 fun _ _ dN dO => ?_
 obtain ⟨ai, bO⟩ := dN
 refine obl rfl ((zy (v := .agg #[Iv 0, Iv 0]) (c' := #[Iv 0, Iv 0]) Tryd.sizeOf57 rfl (dO 18 dc) (bO.blk (i := 4) rfl) (ya ⟨rfl, rfl, trivial⟩) (Nat.le_of_ble_eq_true rfl) rfl ?_))
 intro w1231 dP
 have dQ := bO.pt4 dP
 exact fun E T M => ⟨(And.intro ((M 16 dc).trans ai) dQ), trivial⟩
 intro vals gw dS dU
 obtain ⟨ai, bP⟩ := dS
 have gx := dU 19 dc
 refine yf (kv := [(0, Ix b 0), (3, Ix l 0), (4, .bool (!decide ((yU (d.types.getD e.typ.toNat default) (zW d (e.typ, e.agg) L) e.field e.op e.arg) = 0))), (5, Ix B 0), (6, Ix q 0), (7, Iw k), (41, Iw k), (42, Ix b 0), (43, Ix b 0), (44, Ix b 2), (45, s), (46, Iw L.length), (47, .bool false), (97, Ix b 0), (98, Ix l 4), (99, Iv (e.typ)), (100, Ix l 5), (101, Iv (e.agg)), (102, .tuple #[.agg ((yb d (e.typ, e.agg) L).cells m).toArray, .bool ((zp d L (e.typ, e.agg)).isSome)]), (96, .tuple #[.agg ((yb d (e.typ, e.agg) L).cells m).toArray, .bool ((zp d L (e.typ, e.agg)).isSome)]), (103, .agg ((yb d (e.typ, e.agg) L).cells m).toArray), (104, .bool ((zp d L (e.typ, e.agg)).isSome)), (9, Ix R 0), (10, .bool ((zp d L (e.typ, e.agg)).isSome)), (105, Ix R 1), (106, m), (11, z), (107, .bool ((zp d L (e.typ, e.agg)).isSome)), (108, .bool true)]) ⟨rfl, rfl, (by exact gx), rfl, rfl, rfl, rfl, rfl, rfl, rfl, rfl, rfl, rfl, rfl, rfl, rfl, rfl, rfl, rfl, rfl, rfl, rfl, rfl, rfl, rfl, rfl, rfl, rfl, rfl, trivial⟩ (fun ρw1373 => ?_)
 refine zf (zt (Zx (b := B) Tryd.results61 Tryd.isAgg57 Tryd.sizeOf57 rfl rfl (CellsAt.all (bP.blk (i := 4) rfl)) (show _ = (.bool (!decide ((yU (d.types.getD e.typ.toNat default) (zW d (e.typ, e.agg) L) e.field e.op e.arg) = 0)) : Value) from rfl) ?_))
 have dV : Sep G W Rs gw := bP.sel 6 [] (Nat.le_add_left _ _) rfl rfl
 rw [hT]
 refine ⟨rfl, ?_, dV⟩
 exact ⟨(by decide : InR 0), (by decide : InR 0)⟩
 have ag := tD ag
 refine zo rfl (zv (zd (zw (zd (za kr (fun _ => (st (zb (v := Ix b 0) rfl (st (zH (b := b) (o := 0) rfl (st (xI rfl (st (zg (v := s) Tryd.isAgg66 rfl (zh (Q.gblk ae) rfl) (st (zb (v := Iw k) rfl ?_))))))))))))))))
 have dW : k < L.length := bo
 refine st (zk (k := 13) (i := k) Tryd.underlying66 Tryd.sizeOf62 rfl ax.sl rfl dW (st (Za rfl ?_)))
 have aj : k < L.length := bo
 obtain ⟨am, J, S⟩ := ax.ent aj
 rw [← zm default aj] at am J S
 have hsm1382 : ((L.getD k default).ev.deps).length * 8 ≤ 140737488355328 := J.small
 have cV := Q.cells am (ax.foot (ne_of_lt aj))
 refine st (zl (k := 10) (cs := [Iv ((L.getD k default).ev.origin), Iv ((L.getD k default).ev.seq), Iv ((L.getD k default).ev.lam), (zi W (sb s) (so s + k * 13 + 3)), Iv ((L.getD k default).ev.typ), Iv ((L.getD k default).ev.agg), Iv ((L.getD k default).ev.field), Iv ((L.getD k default).ev.op), Iv ((L.getD k default).ev.arg), Iv ((L.getD k default).ev.key)]) Tryd.isAgg59 Tryd.sizeOf59 rfl rfl (CellsAt.sub cV 0 (cs2 := [Iv ((L.getD k default).ev.origin), Iv ((L.getD k default).ev.seq), Iv ((L.getD k default).ev.lam), (zi W (sb s) (so s + k * 13 + 3)), Iv ((L.getD k default).ev.typ), Iv ((L.getD k default).ev.agg), Iv ((L.getD k default).ev.field), Iv ((L.getD k default).ev.op), Iv ((L.getD k default).ev.arg), Iv ((L.getD k default).ev.key)]) rfl) (st (zB Tryd.zeroValue59 ?_)))
 intro w1386 F dX
 have bQ := Q.new dX
 refine stn (zy (v := .agg (((L.getD k default).ev).cells (zi W (sb s) (so s + k * 13 + 3))).toArray) (c' := (((L.getD k default).ev).cells (zi W (sb s) (so s + k * 13 + 3))).toArray) Tryd.sizeOf59 rfl rfl (bQ.blk (i := 0) rfl) (ya ⟨rfl, rfl, rfl, J.sl.one, rfl, rfl, rfl, rfl, rfl, rfl, trivial⟩) (Nat.le_of_ble_eq_true rfl) rfl ?_)
 intro w1388 dY
 have y := bQ.pt0 dY
 refine zf (zd (zF kr (st (zb (v := Ix b 0) rfl (st (zH (b := b) (o := 0) rfl (st (xI rfl (st (zg (v := s) Tryd.isAgg66 rfl (zh (y.gblk ae) rfl) (st (zb (v := Iw k) rfl ?_))))))))))))
 have dZ : k < L.length := bo
 refine st (zk (k := 13) (i := k) Tryd.underlying66 Tryd.sizeOf62 rfl ax.sl rfl dZ (st (xY rfl ?_)))
 have cW := y.cells am (ax.foot (ne_of_lt aj))
 refine st (zg (v := .bool ((L.getD k default).void)) Tryd.isAgg4 rfl (cW.get (j := 10) rfl) (st (yt (a := (L.getD k default).void) rfl (st (zb (v := .bool (!((L.getD k default).void))) rfl (stc (V := Ix F 4) rfl rfl (fun ea => ?_) ?_))))))
 have eb := ea
 try simp only [zj] at eb
 exact xa rfl ⟨rfl, rfl⟩
 refine stc (V := Iv (((L.getD k default).ev).typ)) rfl rfl (fun bR => ?_) ?_
 have ec := bR
 try simp only [zj] at ec
 exact zg (v := Iv (((L.getD k default).ev).typ)) Tryd.isAgg3 (show _ = (Ix F 4 : Value) from (if_pos bR)) (zh (y.blk (i := 0) rfl) rfl) ⟨rfl, rfl⟩
 refine stc (V := Ix l 4) rfl rfl (fun ed => ?_) ?_
 have ee := ed
 try simp only [zj] at ee
 exact xa rfl ⟨rfl, rfl⟩
 refine stc (V := Iv (e.typ)) rfl rfl (fun bS => ?_) ?_
 have ef := bS
 try simp only [zj] at ef
 exact zg (v := Iv (e.typ)) Tryd.isAgg3 (show _ = (Ix l 4 : Value) from (if_pos bS)) (zh (y.blk (i := 3) rfl) rfl) ⟨rfl, rfl⟩
 refine stc (V := .bool (decide ((((L.getD k default).ev).typ) = e.typ))) rfl rfl (fun aK => ?_) ?_
 have eg := aK
 try simp only [zj] at eg
 exact zP (k := .i64) (a := ((L.getD k default).ev).typ) (b := e.typ) (show _ = (Iv (((L.getD k default).ev).typ) : Value) from (if_pos aK)) (show _ = (Iv (e.typ) : Value) from (if_pos aK)) ⟨rfl, rfl⟩
 refine st (zx (b := !((L.getD k default).void)) (b' := decide ((((L.getD k default).ev).typ) = e.typ)) rfl (fun hbp => (show _ = (.bool (decide ((((L.getD k default).ev).typ) = e.typ)) : Value) from (if_pos hbp))) (st (zb (v := .bool ((!((L.getD k default).void)) && (decide ((((L.getD k default).ev).typ) = e.typ)))) rfl (stc (V := Ix F 5) rfl rfl (fun eh => ?_) ?_))))
 have ei := eh
 try simp only [zj] at ei
 exact xZ rfl ⟨rfl, rfl⟩
 refine stc (V := Iv (((L.getD k default).ev).agg)) rfl rfl (fun bT => ?_) ?_
 have ej := bT
 try simp only [zj] at ej
 exact zg (v := Iv (((L.getD k default).ev).agg)) Tryd.isAgg3 (show _ = (Ix F 5 : Value) from (if_pos bT)) (zh (y.blk (i := 0) rfl) rfl) ⟨rfl, rfl⟩
 refine stc (V := Ix l 5) rfl rfl (fun ek => ?_) ?_
 have el := ek
 try simp only [zj] at el
 exact xZ rfl ⟨rfl, rfl⟩
 refine stc (V := Iv (e.agg)) rfl rfl (fun bU => ?_) ?_
 have em := bU
 try simp only [zj] at em
 exact zg (v := Iv (e.agg)) Tryd.isAgg3 (show _ = (Ix l 5 : Value) from (if_pos bU)) (zh (y.blk (i := 3) rfl) rfl) ⟨rfl, rfl⟩
 refine stc (V := .bool (decide ((((L.getD k default).ev).agg) = e.agg))) rfl rfl (fun aL => ?_) ?_
 have en := aL
 try simp only [zj] at en
 exact zP (k := .i64) (a := ((L.getD k default).ev).agg) (b := e.agg) (show _ = (Iv (((L.getD k default).ev).agg) : Value) from (if_pos aL)) (show _ = (Iv (e.agg) : Value) from (if_pos aL)) ⟨rfl, rfl⟩
 refine st (zx (b := (!((L.getD k default).void)) && (decide ((((L.getD k default).ev).typ) = e.typ))) (b' := decide ((((L.getD k default).ev).agg) = e.agg)) rfl (fun hbp => (show _ = (.bool (decide ((((L.getD k default).ev).agg) = e.agg)) : Value) from (if_pos hbp))) (st (zb (v := .bool (((!((L.getD k default).void)) && (decide ((((L.getD k default).ev).typ) = e.typ))) && (decide ((((L.getD k default).ev).agg) = e.agg)))) rfl (stc (V := Ix F 6) rfl rfl (fun eo => ?_) ?_))))
 have er := eo
 try simp only [zj] at er
 exact xj rfl ⟨rfl, rfl⟩
 refine stc (V := Iv (((L.getD k default).ev).field)) rfl rfl (fun bV => ?_) ?_
 have es := bV
 try simp only [zj] at es
 exact zg (v := Iv (((L.getD k default).ev).field)) Tryd.isAgg3 (show _ = (Ix F 6 : Value) from (if_pos bV)) (zh (y.blk (i := 0) rfl) rfl) ⟨rfl, rfl⟩
 refine stc (V := Ix l 6) rfl rfl (fun et => ?_) ?_
 have eu := et
 try simp only [zj] at eu
 exact xj rfl ⟨rfl, rfl⟩
 refine stc (V := Iv (e.field)) rfl rfl (fun bW => ?_) ?_
 have ew := bW
 try simp only [zj] at ew
 exact zg (v := Iv (e.field)) Tryd.isAgg3 (show _ = (Ix l 6 : Value) from (if_pos bW)) (zh (y.blk (i := 3) rfl) rfl) ⟨rfl, rfl⟩
 refine stc (V := .bool (decide ((((L.getD k default).ev).field) = e.field))) rfl rfl (fun aM => ?_) ?_
 have ex := aM
 try simp only [zj] at ex
 exact zP (k := .i64) (a := ((L.getD k default).ev).field) (b := e.field) (show _ = (Iv (((L.getD k default).ev).field) : Value) from (if_pos aM)) (show _ = (Iv (e.field) : Value) from (if_pos aM)) ⟨rfl, rfl⟩
 refine st (zx (b := ((!((L.getD k default).void)) && (decide ((((L.getD k default).ev).typ) = e.typ))) && (decide ((((L.getD k default).ev).agg) = e.agg))) (b' := decide ((((L.getD k default).ev).field) = e.field)) rfl (fun hbp => (show _ = (.bool (decide ((((L.getD k default).ev).field) = e.field)) : Value) from (if_pos hbp))) (st (zb (v := .bool ((((!((L.getD k default).void)) && (decide ((((L.getD k default).ev).typ) = e.typ))) && (decide ((((L.getD k default).ev).agg) = e.agg))) && (decide ((((L.getD k default).ev).field) = e.field)))) rfl (stc (V := .agg ((((d.types.getD e.typ.toNat default).fields).getD e.field.toNat default).cells (zi W (sb (zi W (sb g) (so g + e.typ.toNat * 1 + 0))) (so (zi W (sb g) (so g + e.typ.toNat * 1 + 0)) + e.field.toNat * 4 + 3))).toArray) rfl rfl (fun ey => ?_) ?_))))
 have ez := ey
 try simp only [zj] at ez
 exact zl (k := 4) Tryd.isAgg79 Tryd.sizeOf79 rfl rfl (CellsAt.all (y.blk (i := 1) rfl)) ⟨rfl, rfl⟩
 refine stc (V := .agg (((L.getD k default).ev).cells (zi W (sb s) (so s + k * 13 + 3))).toArray) rfl rfl (fun eA => ?_) ?_
 have eB := eA
 try simp only [zj] at eB
 exact zl (k := 10) Tryd.isAgg59 Tryd.sizeOf59 rfl rfl (CellsAt.all (y.blk (i := 0) rfl)) ⟨rfl, rfl⟩
 refine stc (V := .agg (e.cells de0).toArray) rfl rfl (fun eC => ?_) ?_
 have eD := eC
 try simp only [zj] at eD
 exact zl (k := 10) Tryd.isAgg59 Tryd.sizeOf59 rfl rfl (CellsAt.all (y.blk (i := 3) rfl)) ⟨rfl, rfl⟩
 refine Jb (V := .bool ((yG (((d.types.getD e.typ.toNat default).fields).getD e.field.toNat default) ((L.getD k default).ev) e))) (fun _ A => Sep G W ((Blk F (((L.getD k default).ev).cells (zi W (sb s) (so s + k * 13 + 3))).toArray 59) :: (Blk q ((((d.types.getD e.typ.toNat default).fields).getD e.field.toNat default).cells (zi W (sb (zi W (sb g) (so g + e.typ.toNat * 1 + 0))) (so (zi W (sb g) (so g + e.typ.toNat * 1 + 0)) + e.field.toNat * 4 + 3))).toArray 79) :: (Blk B #[Iv 0, Iv 0] 57) :: (Blk l (e.cells de0).toArray 59) :: Rs) A) y rfl rfl (fun ak => ?_) (fun w1442 bX => ?_)
 have eE := ak
 try simp only [zj] at eE
 have aN : e.typ.toNat < d.types.length := bo
 obtain ⟨aW, K, cd⟩ := u.typ aN
 rw [← zm default aN] at aW K cd
 have hsm1435 : ((d.types.getD e.typ.toNat default).fields).length * 48 ≤ 140737488355328 := K.small
 have hcw1436 := y.cells aW (u.foot (ne_of_lt aN))
 have aO : e.field.toNat < ((d.types.getD e.typ.toNat default).fields).length := bo
 obtain ⟨aX, Y, aP⟩ := K.fld aO
 rw [← zm default aO] at aX Y aP
 have hsm1438 : ((((d.types.getD e.typ.toNat default).fields).getD e.field.toNat default).moves).length * 32 ≤ 140737488355328 := Y.small
 have hcw1439 := y.cells aX (K.foot (ne_of_lt aO))
 refine (zu (f := 90) (vals := [.agg ((((d.types.getD e.typ.toNat default).fields).getD e.field.toNat default).cells (zi W (sb (zi W (sb g) (so g + e.typ.toNat * 1 + 0))) (so (zi W (sb g) (so g + e.typ.toNat * 1 + 0)) + e.field.toNat * 4 + 3))).toArray, .agg (((L.getD k default).ev).cells (zi W (sb s) (so s + k * 13 + 3))).toArray, .agg (e.cells de0).toArray]) (cap := []) rfl (yP ⟨(show _ = (.agg ((((d.types.getD e.typ.toNat default).fields).getD e.field.toNat default).cells (zi W (sb (zi W (sb g) (so g + e.typ.toNat * 1 + 0))) (so (zi W (sb g) (so g + e.typ.toNat * 1 + 0)) + e.field.toNat * 4 + 3))).toArray : Value) from (if_pos ak)), (show _ = (.agg (((L.getD k default).ev).cells (zi W (sb s) (so s + k * 13 + 3))).toArray : Value) from (if_pos ak)), (show _ = (.agg (e.cells de0).toArray : Value) from (if_pos ak)), trivial⟩) Tryd.call90 (VA (f := (((d.types.getD e.typ.toNat default).fields).getD e.field.toNat default)) (x := ((L.getD k default).ev)) (e := e) Y aP J S.ev hde0 oe y) ?_)
 rintro _ w1440 ⟨rfl, eF⟩
 exact ⟨rfl, eF⟩
 refine st (zx (b := (((!((L.getD k default).void)) && (decide ((((L.getD k default).ev).typ) = e.typ))) && (decide ((((L.getD k default).ev).agg) = e.agg))) && (decide ((((L.getD k default).ev).field) = e.field))) (b' := (yG (((d.types.getD e.typ.toNat default).fields).getD e.field.toNat default) ((L.getD k default).ev) e)) rfl (fun hbp => (show _ = (.bool ((yG (((d.types.getD e.typ.toNat default).fields).getD e.field.toNat default) ((L.getD k default).ev) e)) : Value) from (if_pos hbp))) (zf ?_))
 cases al : ((((!((L.getD k default).void)) && (decide ((((L.getD k default).ev).typ) = e.typ))) && (decide ((((L.getD k default).ev).agg) = e.agg))) && (decide ((((L.getD k default).ev).field) = e.field))) && (yG (((d.types.getD e.typ.toNat default).fields).getD e.field.toNat default) ((L.getD k default).ev) e)
 have an := al
 try simp only [zj] at al
 refine zn rfl (zv (za kr (fun _ => (st (zb (v := Iw k) rfl ?_)))))
 have eG : InR ((k + 1 : Nat) : Int) := bo
 refine st (zV (r := ((k + 1 : Nat) : Int)) (k := .i64) (a := ((k : Nat) : Int)) (b := 1) rfl rfl (by rw [show (((k : Nat) : Int) + 1 : Int) = ((k + 1 : Nat) : Int) from bo]; exact zM eG) (st (ze (v := Iw (k + 1)) rfl (zf ?_))))
 have eH := bX.s4_bcd
 exact ⟨_, by omega, k + 1, _, rfl, zq ⟨rfl, rfl, rfl, rfl, rfl, rfl, trivial⟩, by omega, (yW hno (rj_raw.trans an)), eH⟩
 have an := al
 try simp only [zj] at al
 have hT := KC hfz om hno (rj_raw.trans an)
 refine zo rfl (zd (WD4 ((fun TT C gC => WF [fun vals A => Sep G W (C :: gC :: (Blk B #[Iv 0, Iv 0] 57) :: TT) A, fun vals A => Sep G W (C :: gC :: (Blk B #[Iv (((L.getD k default).ev).origin), Iv (((L.getD k default).ev).seq)] 57) :: TT) A]) ((Blk l (e.cells de0).toArray 59) :: Rs) (Blk F (((L.getD k default).ev).cells (zi W (sb s) (so s + k * 13 + 3))).toArray 59) (Blk q ((((d.types.getD e.typ.toNat default).fields).getD e.field.toNat default).cells (zi W (sb (zi W (sb g) (so g + e.typ.toNat * 1 + 0))) (so (zi W (sb g) (so g + e.typ.toNat * 1 + 0)) + e.field.toNat * 4 + 3))).toArray 79)) (AF [Vl 0 (Ix F 0), Vl 1 (.agg #[Iv (((L.getD k default).ev).origin), Iv (((L.getD k default).ev).seq)]), Vl 2 (.bool true), fun _ => True]) [[], [0], [], [0, 1, 2]] [3] [(0, 0), (0, 0), (0, 0), (0, 0)] bX ⟨?_, ?_, ?_, ?_, trivial⟩ ?_))
 exact fun _ _ _ _ _ _ _ => obl rfl (yM rfl dR)
 exact ob1 0 fun _ _ (eI : Sep _ _ _ _) eJ => obl rfl (zl (k := 2) (cs := [Iv (((L.getD k default).ev).origin), Iv (((L.getD k default).ev).seq)]) Tryd.isAgg57 Tryd.sizeOf57 rfl (eJ 0 dc) (CellsAt.sub (CellsAt.all (eI.blk (i := 0) rfl)) 0 (cs2 := [Iv (((L.getD k default).ev).origin), Iv (((L.getD k default).ev).seq)]) rfl) dR)
 exact fun _ _ _ _ _ _ _ => obl rfl (ze (v := .bool true) rfl dR)
 refine ob1 0 fun _ _ (bY : Sep _ _ _ _) eK => (obl rfl ((zy (v := .agg #[Iv (((L.getD k default).ev).origin), Iv (((L.getD k default).ev).seq)]) (c' := #[Iv (((L.getD k default).ev).origin), Iv (((L.getD k default).ev).seq)]) Tryd.sizeOf57 rfl (eK 1 dc) (bY.blk (i := 2) rfl) (ya ⟨rfl, rfl, trivial⟩) (Nat.le_of_ble_eq_true rfl) rfl ?_)))
 intro w1475 eL
 have eM := bY.pt2 eL
 exact fun E T M => ⟨eM, trivial⟩
 intro vals w1498 eN eO
 have bZ : Sep _ _ _ _ := eN
 have gy := eO 2 dc
 refine yf (kv := [(0, Ix b 0), (3, Ix l 0), (4, .bool true), (5, Ix B 0), (6, Ix q 0), (7, Iw k), (41, Iw k), (42, Ix b 0), (43, Ix b 0), (44, Ix b 2), (45, s), (46, Iw L.length), (47, .bool true), (50, Ix b 0), (51, Ix b 0), (52, Ix b 2), (53, s), (54, Iw k), (55, Ix (sb s) (so s + k * 13)), (56, Ix (sb s) (so s + k * 13)), (57, .agg (((L.getD k default).ev).cells (zi W (sb s) (so s + k * 13 + 3))).toArray), (8, Ix F 0), (58, Ix b 0), (59, Ix b 0), (60, Ix b 2), (61, s), (62, Iw k), (63, Ix (sb s) (so s + k * 13)), (64, Ix (sb s) (so s + k * 13 + 10)), (65, .bool ((L.getD k default).void)), (66, .bool (!((L.getD k default).void))), (67, .bool (!((L.getD k default).void))), (73, .bool ((!((L.getD k default).void)) && (decide ((((L.getD k default).ev).typ) = e.typ)))), (74, .bool ((!((L.getD k default).void)) && (decide ((((L.getD k default).ev).typ) = e.typ)))), (80, .bool (((!((L.getD k default).void)) && (decide ((((L.getD k default).ev).typ) = e.typ))) && (decide ((((L.getD k default).ev).agg) = e.agg)))), (81, .bool (((!((L.getD k default).void)) && (decide ((((L.getD k default).ev).typ) = e.typ))) && (decide ((((L.getD k default).ev).agg) = e.agg)))), (87, .bool ((((!((L.getD k default).void)) && (decide ((((L.getD k default).ev).typ) = e.typ))) && (decide ((((L.getD k default).ev).agg) = e.agg))) && (decide ((((L.getD k default).ev).field) = e.field)))), (88, .bool ((((!((L.getD k default).void)) && (decide ((((L.getD k default).ev).typ) = e.typ))) && (decide ((((L.getD k default).ev).agg) = e.agg))) && (decide ((((L.getD k default).ev).field) = e.field)))), (93, .bool true)]) ⟨rfl, rfl, (by exact gy), rfl, rfl, rfl, rfl, rfl, rfl, rfl, rfl, rfl, rfl, rfl, rfl, rfl, rfl, rfl, rfl, rfl, rfl, rfl, rfl, rfl, rfl, rfl, rfl, rfl, rfl, rfl, rfl, rfl, rfl, rfl, rfl, rfl, rfl, rfl, rfl, trivial⟩ (fun ρw1498 => ?_)
 refine zf (zt (Zx (b := B) Tryd.results61 Tryd.isAgg57 Tryd.sizeOf57 rfl rfl (CellsAt.all (bZ.blk (i := 2) rfl)) (show _ = (.bool true : Value) from rfl) ?_))
 have eP := bZ.s4_
 rw [hT]
 refine ⟨rfl, ?_, eP⟩
 exact ⟨S.ev.origin, S.ev.seq⟩
 have H := zR H
 have hT : zK d L e = (true, 0, 0) := YP H
 refine zo rfl (zd (za (by kernel_rfl) (fun _ => (st (zQ (parts' := []) (v := .agg #[Iv 0, Iv 0]) rfl (by simp [Instr.build, Instr.fill, Ev.cells, go_sem, Mv.cells, Fld.cells, Typ.cells, Prj.cells, Dcl.cells, Cel.cells, AskR.cells, Ask.cells, CelS.cells, Ev.cells, Ent.cells, Sta.cells]) (st (ze (v := .bool true) rfl (stn (zy (v := .agg #[Iv 0, Iv 0]) (c' := #[Iv 0, Iv 0]) Tryd.sizeOf57 rfl rfl (aY.blk (i := 0) rfl) (ya ⟨rfl, rfl, trivial⟩) (Nat.le_of_ble_eq_true rfl) rfl ?_)))))))))
 intro w1504 eQ
 have ca := aY.pt0 eQ
 refine zf (zt (Zx (b := B) Tryd.results61 Tryd.isAgg57 Tryd.sizeOf57 rfl rfl (CellsAt.all (ca.blk (i := 0) rfl)) (show _ = (.bool true : Value) from rfl) ?_))
 have eR := ca.s2_
 rw [hT]
 refine ⟨rfl, ?_, eR⟩
 exact ⟨(by decide : InR 0), (by decide : InR 0)⟩

end Go.Proofs.YtlblilbmpdejgaaDoor
/- Steps of the proofs of this seat: part F29. -/
set_option maxRecDepth 8000
set_option maxHeartbeats 4000000
namespace Go.Proofs.YtlblilbmpdejgaaDoor
open Go.Proofs Go.RowKit

set_option maxHeartbeats 8000000 in
theorem UZ {G : Nat → Prop} {W w : World} {Rs : List HP} {b : Nat} {d : Dcl} {L : List Ent} {e : Ev} {de0 : Value} (hde0 : RdS W G de0 e.deps) (oe : e.Ok) (hS0 : Sep G W ((RefV b d L) :: Rs) w) (hd : DclOk d) (hrl : Ran d L) (hml : L.length ≤ 1000000) : Ret Tryd.prog 29 [.pointer (some ⟨b, 0, none⟩), .agg (e.cells de0).toArray] w (fun r w' => ∃ (v : Value), r = (.agg ((zS d L e).cells v).toArray : Value) ∧ ((zS d L e).Ok) ∧ Sep G W ((RefV b d (L ++ [zS d L e])) :: (RowE (α := Int) own 3 v e.deps) :: Rs) w') := by
 have hde0s : _ * 8 ≤ _ := hde0.small
 refine zr (args := [Ix b 0, .agg (e.cells de0).toArray]) Tryd.func29 rfl rfl ?_
 refine zd (za kr (fun _ => (st (zT (v := .agg (e.cells de0).toArray) rfl ?_))))
 intro w3 b2 cw
 have cx := hS0.new cw
 refine st (zB Tryd.zeroValue62 ?_)
 intro w7 N cy
 have bR := cx.new cy
 refine zf (zd (za kr (fun _ => (st (zb (v := Ix b 0) rfl (st (zl (k := 10) Tryd.isAgg59 Tryd.sizeOf59 rfl rfl (CellsAt.all (bR.blk (i := 1) rfl)) ?_)))))))
 have cz := bR.mv2
 obtain ⟨G10, ay, bT, bU, bV⟩ := cz.lend
 obtain ⟨vt16, vp17, ve18, hb19, bW, bX, bY⟩ := RefV.sh ay
 have hsm23 : d.types.length * 24 ≤ 140737488355328 := bW.small
 have hsm24 : d.projs.length * 40 ≤ 140737488355328 := bX.small
 have hsm25 : L.length * 120 ≤ 140737488355328 := bY.small
 refine st (zu (f := 61) (vals := [Ix b 0, .agg (e.cells de0).toArray]) (cap := []) rfl rfl Tryd.call61 (Uf (e := e) ay (RdS.base hde0 bT) oe bU (hd) (hrl) (hml)) ?_)
 rintro _ w27 ⟨rfl, ad, bZ⟩
 have ca := bV _ _ bZ
 refine st (zb (v := .tuple #[.bool ((zK d L e).1), .agg #[Iv ((zK d L e).2.1), Iv ((zK d L e).2.2)]]) rfl (st (zE (vs := [.bool ((zK d L e).1), .agg #[Iv ((zK d L e).2.1), Iv ((zK d L e).2.2)]]) (i := 0) (v := .bool ((zK d L e).1)) rfl rfl (st (zE (vs := [.bool ((zK d L e).1), .agg #[Iv ((zK d L e).2.1), Iv ((zK d L e).2.2)]]) (i := 1) (v := .agg #[Iv ((zK d L e).2.1), Iv ((zK d L e).2.2)]) rfl rfl (st (zB Tryd.zeroValue57 ?_)))))))
 intro w32 E cb
 have az := ca.new cb
 refine st (ze (v := .bool ((zK d L e).1)) rfl (stn (zy (v := .agg #[Iv ((zK d L e).2.1), Iv ((zK d L e).2.2)]) (c' := #[Iv ((zK d L e).2.1), Iv ((zK d L e).2.2)]) Tryd.sizeOf57 rfl rfl (az.blk (i := 0) rfl) (ya ⟨rfl, rfl, trivial⟩) (Nat.le_of_ble_eq_true rfl) rfl ?_)))
 intro cA cc
 have cd := az.pt0 cc
 refine zf (zd ?_)
 have hek : Ent.Ok (zS d L e) := ⟨oe, ad.1, ad.2⟩
 have ce := cd.mv1
 obtain ⟨t, u, z, cf⟩ := RefV.open ce
 have I : Sep G W ((Blk b #[t, u, z] 113) :: (RowE (α := Typ) own 33 t d.types) :: (RowE (α := Prj) own 107 u d.projs) :: (RowE (α := Ent) own 62 z L) :: (Blk E #[Iv ((zK d L e).2.1), Iv ((zK d L e).2.2)] 57) :: (Blk N #[Iv 0, Iv 0, Iv 0, (Iz), Iv 0, Iv 0, Iv 0, Iv 0, Iv 0, Iv 0, .bool false, Iv 0, Iv 0] 62) :: (Blk b2 (e.cells de0).toArray 59) :: Rs) cA := cf
 have cg := I.row (i := 1) rfl
 have hr42s : _ * 24 ≤ _ := cg.2
 have ch := I.row (i := 2) rfl
 have hr43s : _ * 40 ≤ _ := ch.2
 have ci := I.row (i := 3) rfl
 have hr44s : _ * 120 ≤ _ := ci.2
 refine WD6 ((fun TT y => WF [fun vals x => Sep G W (y :: TT) x, fun vals x => ∃ (a : Value), (vals 1 = (.agg (e.cells a).toArray : Value)) ∧ Sep G W ((RowE (α := Int) own 3 a e.deps) :: y :: TT) x, fun vals x => ∃ (j : Nat), (vals 5 = (Ix j 0 : Value)) ∧ Sep G W ((Blk j #[Iv 0, Iv 0, Iv 0, (Iz), Iv 0, Iv 0, Iv 0, Iv 0, Iv 0, Iv 0, .bool false, Iv 0, Iv 0] 62) :: y :: TT) x, fun vals x => ∃ (a : Value) (j : Nat), (vals 1 = (.agg (e.cells a).toArray : Value)) ∧ (vals 5 = (Ix j 0 : Value)) ∧ Sep G W ((Blk j #[Iv 0, Iv 0, Iv 0, (Iz), Iv 0, Iv 0, Iv 0, Iv 0, Iv 0, Iv 0, .bool false, Iv 0, Iv 0] 62) :: (RowE (α := Int) own 3 a e.deps) :: y :: TT) x, fun _ _ => True, fun _ _ => True, fun _ _ => True, fun vals x => ∃ (a : Value) (j : Nat), (vals 1 = (.agg (e.cells a).toArray : Value)) ∧ (vals 5 = (Ix j 0 : Value)) ∧ Sep G W ((Blk j ((zS d L e).cells a).toArray 62) :: (RowE (α := Int) own 3 a e.deps) :: y :: TT) x]) ((RowE (α := Typ) own 33 t d.types) :: (RowE (α := Prj) own 107 u d.projs) :: (RowE (α := Ent) own 62 z L) :: (Blk E #[Iv ((zK d L e).2.1), Iv ((zK d L e).2.2)] 57) :: (Blk N #[Iv 0, Iv 0, Iv 0, (Iz), Iv 0, Iv 0, Iv 0, Iv 0, Iv 0, Iv 0, .bool false, Iv 0, Iv 0] 62) :: (Blk b2 (e.cells de0).toArray 59) :: Rs) (Blk b #[t, u, z] 113)) (AF [Vl 0 (.agg (e.cells de0).toArray), fun _ => True, Vl 2 (.bool ((zK d L e).1)), Vl 3 (.agg #[Iv ((zK d L e).2.1), Iv ((zK d L e).2.2)]), fun vals => ∀ (a : Value), vals 1 = (.agg (e.cells a).toArray : Value) → vals 4 = (.agg ((zS d L e).cells a).toArray : Value), fun _ => True, fun _ => True]) [[], [0], [], [], (rg 4), [], (rg 6)] [1, 5, 6] [[0, 2], [0, 2], (rg 4), (rg 4), [1, 3], [0, 1], [3]] I ⟨?_, ?_, ?_, ?_, ?_, ?_, ?_, trivial⟩ ?_ (hlocA := yZ ⟨dA, dT, dA, dA, fun vals l q h => fun a C => (q 4 (.inl rfl)).trans (h a ((q 1 (.inr dc)).symm.trans C)), dT, dT, trivial⟩)
 intro cj vals w110 aC ae hA111
 have X : cj ∈ [0, 2] := aC
 simp only [List.mem_cons, List.not_mem_nil, or_false] at X
 rcases X with rfl | rfl
 have aD : Sep _ _ _ _ := ae
 exact obl rfl (zl (k := 10) Tryd.isAgg59 Tryd.sizeOf59 rfl rfl (CellsAt.all (aD.blk (i := 6) rfl)) dR)
 obtain ⟨j, A, aE⟩ := ae
 exact obl rfl (zl (k := 10) Tryd.isAgg59 Tryd.sizeOf59 rfl rfl (CellsAt.all (aE.blk (i := 7) rfl)) dR)
 intro ck vals w117 aF af ag
 have Y : ck ∈ [0, 2] := aF
 simp only [List.mem_cons, List.not_mem_nil, or_false] at Y
 rcases Y with rfl | rfl
 have aG : Sep _ _ _ _ := af
 refine obl rfl ((zu (f := 27) (vals := [.agg (e.cells de0).toArray]) (cap := []) rfl (yP ⟨(ag 0 dc), trivial⟩) Tryd.call27 (xC (e := e) hde0 oe aG) ?_))
 rintro _ w124 ⟨a, rfl, ah⟩
 have aH := ah.row (i := 0) rfl
 have hr126s : _ * 8 ≤ _ := aH.2
 exact fun l q m => ⟨(Exists.intro a (And.intro q ah)), trivial⟩
 obtain ⟨j, A, aI⟩ := af
 refine obl rfl ((zu (f := 27) (vals := [.agg (e.cells de0).toArray]) (cap := []) rfl (yP ⟨(ag 0 dc), trivial⟩) Tryd.call27 (xC (e := e) hde0 oe aI) ?_))
 rintro _ w130 ⟨a, rfl, ai⟩
 have aJ := ai.row (i := 0) rfl
 have hr132s : _ * 8 ≤ _ := aJ.2
 have aK := ai.mv1
 exact fun l q m => ⟨(Exists.intro a (Exists.intro j (And.intro q (And.intro ((m 5 dc).trans A) aK)))), trivial⟩
 exact fun _ _ _ _ _ _ => obl rfl (zb (v := .bool ((zK d L e).1)) rfl dR)
 intro cl vals w140 aL J hA141
 have Z : cl ∈ [0, 1, 2, 3] := aL
 simp only [List.mem_cons, List.not_mem_nil, or_false] at Z
 rcases Z with rfl | rfl | rfl | rfl
 have aM : Sep _ _ _ _ := J
 exact obl rfl (zl (k := 2) Tryd.isAgg57 Tryd.sizeOf57 rfl rfl (CellsAt.all (aM.blk (i := 4) rfl)) dR)
 obtain ⟨a, s, aN⟩ := J
 exact obl rfl (zl (k := 2) Tryd.isAgg57 Tryd.sizeOf57 rfl rfl (CellsAt.all (aN.blk (i := 5) rfl)) dR)
 obtain ⟨j, A, aO⟩ := J
 exact obl rfl (zl (k := 2) Tryd.isAgg57 Tryd.sizeOf57 rfl rfl (CellsAt.all (aO.blk (i := 5) rfl)) dR)
 obtain ⟨a, j, s, A, aP⟩ := J
 exact obl rfl (zl (k := 2) Tryd.isAgg57 Tryd.sizeOf57 rfl rfl (CellsAt.all (aP.blk (i := 6) rfl)) dR)
 intro cm vals w149 aQ aj K
 have aa : cm ∈ [1, 3] := aQ
 simp only [List.mem_cons, List.not_mem_nil, or_false] at aa
 rcases aa with rfl | rfl
 obtain ⟨a, s, hS153⟩ := aj
 refine obl rfl (zQ (parts' := [(0, .agg (e.cells a).toArray), (1, .bool ((zK d L e).1)), (2, .agg #[Iv ((zK d L e).2.1), Iv ((zK d L e).2.2)])]) (v := .agg ((zS d L e).cells a).toArray) (xF ⟨rfl, s, rfl, (K 2 (by decide)), rfl, (K 3 (by decide)), trivial⟩) (by simp [Instr.build, Instr.fill, go_sem, Ent.cells, Ev.cells, zS]) (fun l q m => ⟨rfl, ?_⟩))
 intro cn C
 rw [m 1 (by decide)] at C; cases s.symm.trans C
 exact q
 obtain ⟨a, j, s, A, hS156⟩ := aj
 refine obl rfl (zQ (parts' := [(0, .agg (e.cells a).toArray), (1, .bool ((zK d L e).1)), (2, .agg #[Iv ((zK d L e).2.1), Iv ((zK d L e).2.2)])]) (v := .agg ((zS d L e).cells a).toArray) (xF ⟨rfl, s, rfl, (K 2 (by decide)), rfl, (K 3 (by decide)), trivial⟩) (by simp [Instr.build, Instr.fill, go_sem, Ent.cells, Ev.cells, zS]) (fun l q m => ⟨rfl, ?_⟩))
 intro cn C
 rw [m 1 (by decide)] at C; cases s.symm.trans C
 exact q
 intro co vals w160 aR ak hA161
 have ab : co ∈ [0, 1] := aR
 simp only [List.mem_cons, List.not_mem_nil, or_false] at ab
 rcases ab with rfl | rfl
 have aS : Sep _ _ _ _ := ak
 refine obl rfl ((zB Tryd.zeroValue62 ?_))
 intro w167 j aT
 have aU := aS.new aT
 exact fun l q m => ⟨(Exists.intro j (And.intro q aU)), trivial⟩
 obtain ⟨a, s, aV⟩ := ak
 refine obl rfl ((zB Tryd.zeroValue62 ?_))
 intro w172 j aW
 have aX := aV.new aW
 exact fun l q m => ⟨(Exists.intro a (Exists.intro j (And.intro ((m 1 dc).trans s) (And.intro q aX)))), trivial⟩
 intro cp vals w175 aY aZ ba
 have ac : cp ∈ [3] := aY
 simp only [List.mem_cons, List.not_mem_nil, or_false] at ac
 subst ac
 obtain ⟨a, j, s, A, Q⟩ := aZ
 refine obl rfl ?_
 have cq : vals 4 = (.agg ((zS d L e).cells a).toArray : Value) := ba 4 dc a s
 have al := Q.row (i := 1) rfl
 have hr183s : _ * 8 ≤ _ := al.2
 refine (zy (v := .agg ((zS d L e).cells a).toArray) (c' := ((zS d L e).cells a).toArray) Tryd.sizeOf62 A cq (Q.blk (i := 0) rfl) (ya ⟨rfl, rfl, rfl, al.1.one, rfl, rfl, rfl, rfl, rfl, rfl, rfl, rfl, rfl, trivial⟩) (Nat.le_of_ble_eq_true rfl) rfl ?_)
 intro w181 bb
 have bc := Q.pt0 bb
 exact fun l q m => ⟨(Exists.intro a (Exists.intro j (And.intro ((m 1 dc).trans s) (And.intro ((m 5 dc).trans A) bc)))), trivial⟩
 intro vals w185 bd hA187
 obtain ⟨a, j, s, A, be⟩ := bd
 refine yf (kv := [(0, Ix b 0), (1, .agg (e.cells de0).toArray), (3, Ix b2 0), (4, Ix N 0), (9, Ix b 0), (10, .agg (e.cells de0).toArray), (11, .tuple #[.bool ((zK d L e).1), .agg #[Iv ((zK d L e).2.1), Iv ((zK d L e).2.2)]]), (8, .tuple #[.bool ((zK d L e).1), .agg #[Iv ((zK d L e).2.1), Iv ((zK d L e).2.2)]]), (12, .bool ((zK d L e).1)), (13, .agg #[Iv ((zK d L e).2.1), Iv ((zK d L e).2.2)]), (6, Ix E 0), (5, .bool ((zK d L e).1)), (7, Ix j 0)]) ⟨rfl, rfl, rfl, rfl, rfl, rfl, rfl, rfl, rfl, rfl, rfl, rfl, (by exact A), trivial⟩ (fun ρw185 => (zf (zd ?_)))
 refine WD4 ((fun TT y O M F H P => WF [fun vals x => Sep G W (y :: O :: M :: F :: H :: P :: TT) x, fun vals x => ∃ (p : Nat), (vals 6 = ((Iy p 1 1) : Value)) ∧ Sep G W ((Blk p ((zS d L e).cells a).toArray 62) :: y :: O :: M :: F :: H :: P :: TT) x, fun vals x => ∃ (p : Nat) (n : Value), (vals 6 = ((Iy p 1 1) : Value)) ∧ (vals 7 = (n : Value)) ∧ Sep G W ((RowE (α := Ent) own 62 n (L ++ [(zS d L e)])) :: y :: M :: F :: H :: TT) x, fun vals x => ∃ (p : Nat) (n : Value), (vals 6 = ((Iy p 1 1) : Value)) ∧ (vals 7 = (n : Value)) ∧ Sep G W ((RowE (α := Ent) own 62 n (L ++ [(zS d L e)])) :: y :: (Blk b #[t, u, n] 113) :: F :: H :: TT) x]) ((Blk E #[Iv ((zK d L e).2.1), Iv ((zK d L e).2.2)] 57) :: (Blk N #[Iv 0, Iv 0, Iv 0, (Iz), Iv 0, Iv 0, Iv 0, Iv 0, Iv 0, Iv 0, .bool false, Iv 0, Iv 0] 62) :: (Blk b2 (e.cells de0).toArray 59) :: Rs) (Blk j ((zS d L e).cells a).toArray 62) (RowE (α := Int) own 3 a e.deps) (Blk b #[t, u, z] 113) (RowE (α := Typ) own 33 t d.types) (RowE (α := Prj) own 107 u d.projs) (RowE (α := Ent) own 62 z L)) (AF [Vl 0 (Ix b 0), Vl 1 (Ix b 0), Vl 2 (Ix b 0), Vl 3 (Ix b 2), Vl 4 (z), Vl 5 (.agg ((zS d L e).cells a).toArray), fun _ => True, fun _ => True, Vl 8 (Ix b 0), Vl 9 (Ix b 2), fun _ => True]) [[], [], [1], [1, 2], [1, 2, 3], [], [5], [1, 2, 3, 4, 5, 6], (rg 8), (rg 9), (rg 10)] [6, 7, 10] [(0, 2), (0, 1), (0, 1), (0, 1), (0, 1), (0, 0), (0, 0), (1, 1), (2, 2), (2, 2), (2, 2)] be ⟨?_, ?_, ?_, ?_, ?_, ?_, ?_, ?_, ?_, ?_, ?_, trivial⟩ ?_
 exact fun _ _ _ _ _ _ _ => obl rfl (zb (v := Ix b 0) rfl dR)
 exact fun _ _ _ _ _ _ _ => obl rfl (zb (v := Ix b 0) rfl dR)
 exact fun _ _ _ _ _ _ bf => obl rfl (zH (b := b) (o := 0) (bf 1 dc) dR)
 exact fun _ _ _ _ _ _ bg => obl rfl (xI (bg 2 dc) dR)
 refine fun R _ _ cr cs am an => ?_
 have hkk : R = 0 ∨ R = 1 := by have h1 : 0 ≤ R := cr; have h2 : R ≤ 1 := cs; omega
 rcases hkk with rfl | rfl
 have bh : Sep _ _ _ _ := am
 exact obl rfl (zg (v := z) Tryd.isAgg66 (an 3 dc) (zh (bh.blk (i := 2) rfl) rfl) dR)
 obtain ⟨p, D, bi⟩ := am
 exact obl rfl (zg (v := z) Tryd.isAgg66 (an 3 dc) (zh (bi.blk (i := 3) rfl) rfl) dR)
 exact ob1 0 fun _ _ (bj : Sep _ _ _ _) _ => obl rfl (zl (k := 13) Tryd.isAgg62 Tryd.sizeOf62 rfl rfl (CellsAt.all (bj.blk (i := 0) rfl)) dR)
 refine ob1 0 fun _ _ (bk : Sep _ _ _ _) bl => (obl rfl ((zD (k := 13) (parts' := [(0, .agg ((zS d L e).cells a).toArray)]) (c := ((zS d L e).cells a).toArray) Tryd.underlying66 Tryd.sizeOf62 Tryd.zeroValue62 dc (xF ⟨rfl, (bl 5 dc), trivial⟩) kr ?_)))
 intro w240 p bm
 have bn := bk.new bm
 exact fun l q m => ⟨(Exists.intro p (And.intro q bn)), trivial⟩
 refine ob1 1 fun _ _ bp bq => ?_
 obtain ⟨p, D, ao⟩ := bp
 refine obl rfl ?_
 have aA := ao.blk (i := 0) rfl
 have br := ao.s10_gcbdefhij
 refine (yp (src := own) (bytes := 120) (x1 := (zS d L e)) br QR (bq 4 (by decide)) D aA (fun _ _ hN => ⟨_, rfl, RowE.soft hN, hek⟩) (by first | omega | (simp only [List.length_append, List.length_cons, List.length_nil, List.length_take, List.length_drop]; omega)) rfl ?_)
 intro n w251 ap
 have bs := ap.row (i := 0) rfl
 have hr256s : _ * 120 ≤ _ := bs.2
 exact fun l q m => ⟨(Exists.intro p (Exists.intro n (And.intro ((m 6 dc).trans D) (And.intro q ap)))), trivial⟩
 exact fun _ _ _ _ _ _ bt => obl rfl (zH (b := b) (o := 0) (bt 0 dc) dR)
 exact fun _ _ _ _ _ _ bu => obl rfl (xI (bu 8 dc) dR)
 refine ob1 2 fun _ _ bv bw => ?_
 obtain ⟨p, n, D, S, T⟩ := bv
 refine obl rfl ?_
 have aq := T.row (i := 0) rfl
 have hr282s : _ * 120 ≤ _ := aq.2
 refine (yv (v := n) (c := [t, u, z]) (c' := [t, u, n]) Tryd.sizeOf66 (bw 9 dc) S (T.blk (i := 2) rfl) aq.1.one rfl rfl ?_)
 intro w280 bx
 have bz := T.pt2 bx
 exact fun l q m => ⟨(Exists.intro p (Exists.intro n (And.intro ((m 6 dc).trans D) (And.intro ((m 7 dc).trans S) bz)))), trivial⟩
 intro vals w341 bA hA343
 obtain ⟨p, n, D, S, bB⟩ := bA
 refine yf (kv := [(0, Ix b 0), (1, .agg (e.cells de0).toArray), (3, Ix b2 0), (4, Ix N 0), (9, Ix b 0), (10, .agg (e.cells de0).toArray), (11, .tuple #[.bool ((zK d L e).1), .agg #[Iv ((zK d L e).2.1), Iv ((zK d L e).2.2)]]), (8, .tuple #[.bool ((zK d L e).1), .agg #[Iv ((zK d L e).2.1), Iv ((zK d L e).2.2)]]), (12, .bool ((zK d L e).1)), (13, .agg #[Iv ((zK d L e).2.1), Iv ((zK d L e).2.2)]), (6, Ix E 0), (5, .bool ((zK d L e).1)), (7, Ix j 0)]) ⟨rfl, rfl, rfl, rfl, rfl, rfl, rfl, rfl, rfl, rfl, rfl, rfl, rfl, trivial⟩ (fun ρw341 => (zf (zd ?_)))
 refine WD4 ((fun TT y O M F H P bS => WF [fun vals x => Sep G W (y :: O :: M :: F :: H :: P :: bS :: TT) x, fun vals x => ∃ (g : Value), (vals 1 = (.agg (e.cells g).toArray : Value)) ∧ Sep G W ((RowE (α := Int) own 3 g e.deps) :: y :: O :: M :: F :: H :: P :: bS :: TT) x, fun vals x => ∃ (g : Value), (vals 1 = (.agg (e.cells g).toArray : Value)) ∧ Sep G W ((RowE (α := Int) own 3 g e.deps) :: y :: O :: M :: F :: H :: P :: (Blk N ((zS d L e).cells g).toArray 62) :: TT) x]) ((Blk b2 (e.cells de0).toArray 59) :: Rs) (RowE (α := Ent) own 62 n (L ++ [(zS d L e)])) (Blk j ((zS d L e).cells a).toArray 62) (Blk b #[t, u, n] 113) (RowE (α := Typ) own 33 t d.types) (RowE (α := Prj) own 107 u d.projs) (Blk E #[Iv ((zK d L e).2.1), Iv ((zK d L e).2.2)] 57) (Blk N #[Iv 0, Iv 0, Iv 0, (Iz), Iv 0, Iv 0, Iv 0, Iv 0, Iv 0, Iv 0, .bool false, Iv 0, Iv 0] 62)) (AF [Vl 0 (.agg (e.cells de0).toArray), fun _ => True, Vl 2 (.bool ((zK d L e).1)), Vl 3 (.agg #[Iv ((zK d L e).2.1), Iv ((zK d L e).2.2)]), fun vals => ∀ (g : Value), vals 1 = (.agg (e.cells g).toArray : Value) → vals 4 = (.agg ((zS d L e).cells g).toArray : Value), fun _ => True]) [[], [0], [], [], (rg 4), (rg 5)] [1, 5] [(0, 0), (0, 0), (0, 1), (0, 1), (1, 1), (1, 1)] bB ⟨?_, ?_, ?_, ?_, ?_, ?_, trivial⟩ ?_ (hlocA := yZ ⟨dA, dT, dA, dA, fun vals l q h => fun g C => (q 4 (.inl rfl)).trans (h g ((q 1 (.inr dc)).symm.trans C)), dT, trivial⟩)
 exact ob1 0 fun _ _ (bC : Sep _ _ _ _) _ => obl rfl (zl (k := 10) Tryd.isAgg59 Tryd.sizeOf59 rfl rfl (CellsAt.all (bC.blk (i := 7) rfl)) dR)
 refine ob1 0 fun vals _ (bD : Sep _ _ _ _) bE => (obl rfl ((zu (f := 27) (vals := [.agg (e.cells de0).toArray]) (cap := []) rfl (yP ⟨(bE 0 dc), trivial⟩) Tryd.call27 (xC (e := e) hde0 oe bD) ?_)))
 rintro _ w361 ⟨g, rfl, ar⟩
 have bF := ar.row (i := 0) rfl
 have hr363s : _ * 8 ≤ _ := bF.2
 exact fun l q m => ⟨(Exists.intro g (And.intro q ar)), trivial⟩
 exact fun _ _ _ _ _ _ _ => obl rfl (zb (v := .bool ((zK d L e).1)) rfl dR)
 refine fun U _ _ ct cu au _ => ?_
 have hkk : U = 0 ∨ U = 1 := by have h1 : 0 ≤ U := ct; have h2 : U ≤ 1 := cu; omega
 rcases hkk with rfl | rfl
 have bG : Sep _ _ _ _ := au
 exact obl rfl (zl (k := 2) Tryd.isAgg57 Tryd.sizeOf57 rfl rfl (CellsAt.all (bG.blk (i := 5) rfl)) dR)
 obtain ⟨g, B, bH⟩ := au
 exact obl rfl (zl (k := 2) Tryd.isAgg57 Tryd.sizeOf57 rfl rfl (CellsAt.all (bH.blk (i := 6) rfl)) dR)
 refine ob1 1 fun _ _ bI av => ?_
 obtain ⟨g, B, hS426⟩ := bI
 refine obl rfl (zQ (parts' := [(0, .agg (e.cells g).toArray), (1, .bool ((zK d L e).1)), (2, .agg #[Iv ((zK d L e).2.1), Iv ((zK d L e).2.2)])]) (v := .agg ((zS d L e).cells g).toArray) (xF ⟨rfl, B, rfl, (av 2 (by decide)), rfl, (av 3 (by decide)), trivial⟩) (by simp [Instr.build, Instr.fill, go_sem, Ent.cells, Ev.cells, zS]) (fun l q m => ⟨rfl, ?_⟩))
 intro v360q C
 rw [m 1 (by decide)] at C; cases B.symm.trans C
 exact q
 refine ob1 1 fun vals _ bJ bK => ?_
 obtain ⟨g, B, V⟩ := bJ
 have cv : vals 4 = (.agg ((zS d L e).cells g).toArray : Value) := bK 4 dc g B
 refine obl rfl ?_
 have aw := V.row (i := 0) rfl
 have hr397s : _ * 8 ≤ _ := aw.2
 refine (zy (v := .agg ((zS d L e).cells g).toArray) (c' := ((zS d L e).cells g).toArray) Tryd.sizeOf62 rfl cv (V.blk (i := 7) rfl) (ya ⟨rfl, rfl, rfl, aw.1.one, rfl, rfl, rfl, rfl, rfl, rfl, rfl, rfl, rfl, trivial⟩) (Nat.le_of_ble_eq_true rfl) rfl ?_)
 intro w395 bL
 have bM := V.pt7 bL
 exact fun l q m => ⟨(Exists.intro g (And.intro ((m 1 dc).trans B) bM)), trivial⟩
 intro vals aB bN hA431
 obtain ⟨g, B, ax⟩ := bN
 refine yf (kv := [(0, Ix b 0), (1, .agg (e.cells de0).toArray), (3, Ix b2 0), (4, Ix N 0), (9, Ix b 0), (10, .agg (e.cells de0).toArray), (11, .tuple #[.bool ((zK d L e).1), .agg #[Iv ((zK d L e).2.1), Iv ((zK d L e).2.2)]]), (8, .tuple #[.bool ((zK d L e).1), .agg #[Iv ((zK d L e).2.1), Iv ((zK d L e).2.2)]]), (12, .bool ((zK d L e).1)), (13, .agg #[Iv ((zK d L e).2.1), Iv ((zK d L e).2.2)]), (6, Ix E 0), (5, .bool ((zK d L e).1)), (7, Ix j 0)]) ⟨rfl, rfl, rfl, rfl, rfl, rfl, rfl, rfl, rfl, rfl, rfl, rfl, rfl, trivial⟩ (fun ρw429 => (zf (zt (Xt (b := N) Tryd.results29 Tryd.isAgg62 Tryd.sizeOf62 rfl rfl (CellsAt.all (ax.blk (i := 7) rfl)) ?_))))
 have bO := ax.s9_defbacghi
 have bP : Sep G W ((RefV b d (L ++ [zS d L e])) :: (RowE (α := Int) own 3 g e.deps) :: (Blk j ((zS d L e).cells a).toArray 62) :: (Blk E #[Iv ((zK d L e).2.1), Iv ((zK d L e).2.2)] 57) :: (Blk N ((zS d L e).cells g).toArray 62) :: (Blk b2 (e.cells de0).toArray 59) :: Rs) aB := RefV.close (d := d) (L := (L ++ [zS d L e])) bO
 have bQ : Sep G W ((RefV b d (L ++ [zS d L e])) :: (RowE (α := Int) own 3 g e.deps) :: Rs) aB := bP.sel 6 [0, 1] (Nat.le_add_left _ _) rfl rfl
 refine ⟨g, rfl, hek, bQ⟩

end Go.Proofs.YtlblilbmpdejgaaDoor
