import Derived.Test.YtojlbibionhdjaaGreatDoorD2
import Derived.Laws.Externs
import Derived.Test.YtojlbibionhdjaaGreatDoorD7
import Derived.Test.YtojlbibionhdjaaGreatDoorD3
set_option linter.unusedSimpArgs false
set_option linter.unusedVariables false
set_option linter.unusedSectionVars false
set_option linter.deprecated false
open Go.Proofs.Tryz renaming sizeOf78 → kT, isAgg3 → lT, sizeOf46 → mT, sizeOf64 → nT, isAgg76 → oT, isAgg26 → pT, underlying79 → qT, isAgg79 → rT, underlying76 → sT, isAgg46 → tT, isAgg64 → uT, zeroValue78 → vT, isAgg78 → wT, sizeOf93 → kR, isAgg75 → lR, underlying23 → mR, sizeOf84 → nR, underlying120 → oR, isAgg25 → pR, sizeOf25 → qR, underlying26 → rR, isAgg23 → sR, underlying22 → tR, underlying82 → uR, zeroValue64 → vR, call82 → wR, isAgg93 → kY, zeroValue93 → lY, sizeOf76 → mY, results40 → nY, call62 → oY, sizeOf79 → pY, call63 → qY, zeroValue66 → rY, sizeOf66 → sY, call52 → tY, zeroValue57 → uY, sizeOf26 → vY, call40 → wY, zeroValue46 → kA, isAgg55 → lA, underlying55 → mA, isAgg22 → nA, zeroValue84 → pA, sizeOf88 → qA
namespace Go.Proofs.YtojlbibionhdjaaGreatDoor
open Go.RowKit Go.MapKept
section
variable {α : Type} [Rep α] {P : Program} {d : Option Tmp} {ty : TypeId} {pos : String} {af : Array Edge} {g : Option (Nat × Bool)} {σ : Env} {w : World} {K : Value → World → Prop}
theorem Qf {x : Operand} {t t2 k e : TypeId} {m : Nat} (hU : P.underlying t = some (.map k e)) (hx : ev σ x = .map (some m)) (h : K (.bool false) w) :
    opV P ⟨d, .binOp .eql t x (.const (.map none)) t2, ty, pos, af, g⟩ σ w K := by
  have hc : ev σ (.const (.map none)) = .map none := rfl
  have h1 : ∀ n, (Op.equalIn (n + 1) t (.map (some m)) (.map none)).run P w = .ok false w := fun n => by simp [Op.equalIn, run_underlying hU]
  have h2 : (binOp .eql t (.map (some m)) (.map none)).run P w = .ok (.bool false) w := by
    simp only [binOp]
    simp [show Op.equal t (.map (some m)) (.map none) = Op.equalIn (9999 + 1) t (.map (some m)) (.map none) from rfl, h1]
  refine zM (v := .bool false) (w' := w) ?_ h
  simp [execOp, hx, hc, h2, eqGuard, go_sem]
theorem WG {x : Operand} {t k e : TypeId} {v : Value} (hU : P.underlying t = some (.map k e)) (hx : ev σ x = v) (h : K (.iface t v) w) : opV P ⟨d, .makeInterface t x, ty, pos, af, g⟩ σ w K :=
  zM (v := .iface t v) (w' := w) (by simp [execOp, hx, Instr.makeInterface, run_underlying hU, go_sem]) h
theorem Ws {x : Operand} {t xT k e : TypeId} {v : Value} (hU : P.underlying t = some (.map k e)) (hx : ev σ x = .iface t v) (h : K v w) : opV P ⟨d, .typeAssert x xT t false, ty, pos, af, g⟩ σ w K :=
  zM (v := v) (w' := w) (by simp [execOp, hx, Instr.typeAssert, run_underlying hU, go_sem]) h
theorem Vt {f : FuncId} {x : Operand} {asq : List Operand} {ts : Array TypeId} {t : TypeId} {m : Nat} {F : Nat → Prop} {L : List (Int × α)} (hf : ev σ x = .func (.func f) #[] #[]) (ha : asq.map (ev σ) = [.iface t (.map (some m))])
    (hcall : ∀ args w, (callFunc f args).run P w = ((Extern.MapsClone.clone args).run P w).andThen fun v w' => .ok (.value v) w') (hm : MapR w F m L)
    (h : ∀ w1, Ext w w1 → w1.heap.size = w.heap.size + 1 → MapR w1 F w.heap.size L → K (.iface t (.map (some w.heap.size))) w1) : opV P ⟨d, .call ⟨.value x, asq.toArray, ts⟩, ty, pos, af, g⟩ σ w K := by
  obtain ⟨es, clock, hb, hs, he⟩ := hm
  have hn := New.mk' w (.map es clock)
  have h1 : (Extern.MapsClone.clone #[.iface t (.map (some m))]).run P w = .ok (.iface t (.map (some w.heap.size))) { w with heap := w.heap.push (.map es clock) } := by
    have e : Extern.MapsClone.clone #[.iface t (.map (some m))] = (getObj m >>= fun o => match o with
        | .map entries clock => (newObj (.map entries clock) >>= fun n => pure (.iface t (.map (some n))))
        | _ => stuck "maps.clone: a map expected") := rfl
    rw [e]
    simp [Go.MapKept.run_getObj_map hb, Result.andThen, newObj, newRow, Sem.run, go_sem]
  refine zM (v := .iface t (.map (some w.heap.size))) (w' := { w with heap := w.heap.push (.map es clock) }) ?_ (h _ hn.ext (by simp) ⟨es, clock, hn.at_, hs, he.mono (fun b hb hlt => ⟨hn.ext.block b hlt (fun h => h), hb⟩)⟩)
  simp [execOp, resolve, hf, Deferred.ofValue, invoke, hcall, ← ha, h1, go_sem]
  rw [ha]
  simp [h1, Result.andThen]
end
end Go.Proofs.YtojlbibionhdjaaGreatDoor
set_option maxRecDepth 8000
set_option maxHeartbeats 4000000
namespace Go.Proofs.YtojlbibionhdjaaGreatDoor
open Go.Proofs Go.RowKit
theorem yqh {p : Prop} (h : p := by simp [Instr.build, Instr.fill, Ev.cells, go_sem, Mv.cells, Fld.cells, Typ.cells, Prj.cells, Dcl.cells, Cel.cells, AskR.cells, CelS.cells, Ev.cells, Ent.cells, Sta.cells, Row.cells, Trn.cells]) : p := h

def ZO (m : Nat) (L : List (Int × Row)) : HP := ⟨fun w f => f m ∧ MapR (α := Row) w (fun _ => False) m L, fun ⟨h1, h2⟩ hf => ⟨(hf _ h1 h2.lt).2, h2.mono (hf _ h1 h2.lt).1 (fun _ h => h.elim)⟩⟩
def ProjO (a : Nat) (p : Prj) (L : List (Int × Row)) : HP := VG p.Ok (Ex1 fun m => Star [Blk a #[.int .i64 (p.ptyp), .int .i64 (p.pfield), .int .i64 (p.pgroup), .int .i64 (p.pby), .int .i64 (p.pmake), .map (some m)] 122, ZO m L])
theorem ProjO.mk {w : World} {f : Nat → Prop} {a m : Nat} {p : Prj} {L : List (Int × Row)} (op : p.Ok) (hb : w.heap[a]? = some (.cells #[.int .i64 (p.ptyp), .int .i64 (p.pfield), .int .i64 (p.pgroup), .int .i64 (p.pby), .int .i64 (p.pmake), .map (some m)] 122)) (hm : MapR (α := Row) w (fun _ => False) m L) (hne : a ≠ m) (ha : f a) (hfm : f m) : (ProjO a p L).p w f := by
  refine ⟨op, m, fun i b => match i with | 0 => b = a | 1 => b = m | _ => False, fun i A hA => ?_, fun i j hi hj hij b hb1 hb2 => ?_⟩
  · match i, hA with
    | 0, hA => simp only [List.getElem?_cons_zero, Option.some.injEq] at hA; subst hA; exact ⟨⟨hb, rfl⟩, fun b h => by subst h; exact ⟨ha, yV hb⟩⟩
    | 1, hA => simp only [List.getElem?_cons_succ, List.getElem?_cons_zero, Option.some.injEq] at hA; subst hA; exact ⟨⟨rfl, hm⟩, fun b h => by subst h; exact ⟨hfm, hm.lt⟩⟩
    | _ + 2, hA => simp at hA
  · match i, j, hb1, hb2 with
    | 0, 0, _, _ => exact hij rfl
    | 0, 1, h1, h2 => exact hne (h1.symm.trans h2)
    | 1, 0, h1, h2 => exact hne (h2.symm.trans h1)
    | 1, 1, _, _ => exact hij rfl
    | _ + 2, _, h, _ => exact h
    | 0, _ + 2, _, h => exact h
    | 1, _ + 2, _, h => exact h
theorem ProjO.get {w : World} {f : Nat → Prop} {a : Nat} {p : Prj} {L : List (Int × Row)} (h : (ProjO a p L).p w f) : p.Ok ∧ ∃ m, w.heap[a]? = some (.cells #[.int .i64 (p.ptyp), .int .i64 (p.pfield), .int .i64 (p.pgroup), .int .i64 (p.pby), .int .i64 (p.pmake), .map (some m)] 122) ∧ MapR (α := Row) w (fun _ => False) m L ∧ a ≠ m ∧ f a ∧ f m := by
  obtain ⟨op, m, fs, h1, h2⟩ := h
  obtain ⟨hA, hfA⟩ := h1 0 _ rfl
  obtain ⟨hB, hfB⟩ := h1 1 _ rfl
  exact ⟨op, m, hA.1, hB.2, fun e => h2 0 1 (by simp) (by simp) (by simp) a hA.2 (e ▸ hB.1), (hfA a hA.2).1, (hfB m hB.1).1⟩
theorem ProjO.open {G : Nat → Prop} {W w : World} {As : List HP} {a : Nat} {p : Prj} {L : List (Int × Row)} (h : Sep G W (ProjO a p L :: As) w) : p.Ok ∧ ∃ m, Sep G W (Blk a #[.int .i64 (p.ptyp), .int .i64 (p.pfield), .int .i64 (p.pgroup), .int .i64 (p.pby), .int .i64 (p.pmake), .map (some m)] 122 :: ZO m L :: As) w := by
  obtain ⟨h1, h2⟩ := h.openAnd
  obtain ⟨v, h3⟩ := h2.openEx
  exact ⟨h1, v, h3.openStar⟩
theorem ProjO.close {G : Nat → Prop} {W w : World} {As : List HP} {a m : Nat} {p : Prj} {L : List (Int × Row)} (hp : p.Ok) (h : Sep G W (Blk a #[.int .i64 (p.ptyp), .int .i64 (p.pfield), .int .i64 (p.pgroup), .int .i64 (p.pby), .int .i64 (p.pmake), .map (some m)] 122 :: ZO m L :: As) w) : Sep G W (ProjO a p L :: As) w :=
  Sep.closeAnd hp (Sep.closeEx (A := fun m => Star [Blk a #[.int .i64 (p.ptyp), .int .i64 (p.pfield), .int .i64 (p.pgroup), .int .i64 (p.pby), .int .i64 (p.pmake), .map (some m)] 122, ZO m L]) m (Sep.closeStar (Bs := [Blk a #[.int .i64 (p.ptyp), .int .i64 (p.pfield), .int .i64 (p.pgroup), .int .i64 (p.pby), .int .i64 (p.pmake), .map (some m)] 122, ZO m L]) h))

theorem zal {G : Nat → Prop} {W w : World} {Rs : List HP} {p : Prj} (op : p.Ok) (hS0 : Sep G W Rs w) : Ret Tryz.prog 39 [.agg (p.cells).toArray] w (fun r w' => ∃ (a : Nat), r = (.pointer (some ⟨a, 0, none⟩) : Value) ∧ Sep G W ((ProjO a p []) :: Rs) w') := by
  refine Ret.mono (C_New op) ?_
  rintro r w1 ⟨a, m, rfl, hx, ha, hm, hne, hb, hmr⟩
  exact ⟨a, rfl, hS0.push hx (ProjO.mk op hb hmr hne (f := fun b => w.heap.size ≤ b) ha hm) (fun _ h => h)⟩

theorem zaP {G : Nat → Prop} {W w : World} {Rs : List HP} {a : Nat} {p : Prj} {L : List (Int × Row)} {e : Ent} {de0 : Value} (hde0 : RdS W G de0 e.ev.deps) (oe : e.Ok) {reg : Int} (hreg : InR reg) (hS0 : Sep G W ((ProjO a p L) :: Rs) w) (hcnt : ∀ g, ((zK L g).getD (⟨0, 0, 0⟩ : Row)).count < 4611686018427387904) : Ret Tryz.prog 64 [.pointer (some ⟨a, 0, none⟩), .agg (e.cells de0).toArray, .int .i64 (reg)] w (fun r w' => r = (.tuple #[] : Value) ∧ Sep G W ((ProjO a p (Zl p L e reg)) :: Rs) w') := by
  obtain ⟨f, hA, hl, hT⟩ := hS0.take (i := 0) rfl
  obtain ⟨op, m, hb, hm, hne, hfa, hfm⟩ := ProjO.get hA
  refine Ret.mono (C_Add hb op hm hne (hS0.rds hde0) oe hreg hcnt) ?_
  rintro r w1 ⟨rfl, hm2, hch⟩
  exact ⟨rfl, hT w1 _ f (hch.weak (fun i _ h => by subst h; exact hfm)) (ProjO.mk op (hch.keep hb hne) hm2 hne hfa hfm) (fun _ h => .inl h)⟩

theorem KZ {G : Nat → Prop} {W w : World} {Rs : List HP} {m : Nat} {L : List (Int × Row)} (hS0 : Sep G W ((ZO m L) :: Rs) w) : Ret Tryz.prog 96 [.map (some m)] w (fun r w' => ∃ (m2 : Nat), r = (.map (some m2) : Value) ∧ Sep G W ((ZO m L) :: (ZO m2 L) :: Rs) w') := by
 refine zk (args := [.map (some m)]) Tryz.func96 rfl rfl ?_
 refine za (R0 fun _ => st (aS (.map none) (zb (za (za (R0 fun _ => st (mV (.map (some m)) (st (Qf (m := m) oR rfl (zb (zf rfl (zn (za (R0 fun _ => st (mV (.map (some m)) (st (WG (v := .map (some m)) oR rfl ?_)))))))))))))))))
 obtain ⟨f1, ⟨_, d⟩, hl3⟩ := hS0.get (i := 0) rfl
 refine st (Vt (α := Row) (f := 115) (t := 120) (m := m) rfl rfl (fun a w => run_callFunc_extern Tryz.func115 kr kr kr (e := Extern.MapsClone.clone) kr a w) d ?_)
 intro k g hs6 c
 obtain ⟨b, h⟩ : ∃ z, z = w.heap.size := ⟨_, rfl⟩; rw [← h] at c ⊢
 have j : Sep G W ((ZO b L) :: (ZO m L) :: Rs) k := hS0.push g (B := ZO b L) (f := fun i => i = b) ⟨rfl, c⟩ (fun i hi => by omega)
 refine st (Ws (v := .map (some b)) oR rfl (st (aS (.map (some b)) (zb (zm (zT Tryz.results96 (show _ = (.map (some b) : Value) from rfl) ?_))))))
 refine ⟨b, rfl, (j.mv1)⟩

theorem JG {G : Nat → Prop} {W w : World} {Rs : List HP} {a : Nat} {p : Prj} {L : List (Int × Row)} (hS0 : Sep G W ((ProjO a p L) :: Rs) w) : Ret Tryz.prog 83 [.pointer (some ⟨a, 0, none⟩)] w (fun r w' => ∃ (a2 : Nat), r = (.pointer (some ⟨a2, 0, none⟩) : Value) ∧ Sep G W ((ProjO a p L) :: (ProjO a2 p L) :: Rs) w') := by
 refine zk (args := [Ix a 0]) Tryz.func83 rfl rfl ?_
 obtain ⟨e, t, ag⟩ := ProjO.open hS0
 have U : Sep G W ((Blk a #[Iv (p.ptyp), Iv (p.pfield), Iv (p.pgroup), Iv (p.pby), Iv (p.pmake), .map (some t)] 122) :: (ZO t L) :: Rs) w := ag
 refine za (R0 fun _ => st (aS (.pointer none) (zb (za ?_))))
 refine WD4 ((fun y z => WF [fun vals A => Sep G W (y :: z :: Rs) A, fun vals A => ∃ (c : Nat), (vals 8 = (.map (some c) : Value)) ∧ Sep G W (z :: (ZO c L) :: y :: Rs) A, fun vals A => ∃ (c : Nat) (d : Nat), (vals 8 = (.map (some c) : Value)) ∧ (vals 10 = (Ix d 0 : Value)) ∧ Sep G W ((Blk d #[Iv (p.ptyp), Iv (p.pfield), Iv (p.pgroup), Iv (p.pby), Iv (p.pmake), .map (some c)] 122) :: z :: (ZO c L) :: y :: Rs) A]) (Blk a #[Iv (p.ptyp), Iv (p.pfield), Iv (p.pgroup), Iv (p.pby), Iv (p.pmake), .map (some t)] 122) (ZO t L)) (AF [Vl 0 (Ix a 0), Vl 1 (Ix a 0), Vl 2 (Ix a 0), Vl 3 (.agg (p.cells).toArray), Vl 4 (Ix a 0), Vl 5 (Ix a 0), Vl 6 (Ix a 5), Vl 7 (.map (some t)), fun _ => True, fun vals => ∀ (c : Nat), vals 8 = (.map (some c) : Value) → vals 9 = (.agg #[Iv (p.ptyp), Iv (p.pfield), Iv (p.pgroup), Iv (p.pby), Iv (p.pmake), .map (some c)] : Value), fun _ => True, fun vals => ∀ (d : Nat), vals 10 = (Ix d 0 : Value) → vals 11 = (Ix d 0 : Value)]) [[], [0], [0, 1], [0, 1, 2], [], [4], [4, 5], [4, 5, 6], [4, 5, 6, 7], (rg 9), (rg 10), (rg 11)] [8, 10] [(0, 1), (0, 1), (0, 1), (0, 1), (0, 0), (0, 0), (0, 0), (0, 0), (0, 0), (1, 1), (1, 1), (2, 2)] U ⟨fun _ _ _ _ _ _ _ => obl rfl (mV (Ix a 0) dR), fun _ _ _ _ _ _ C => obl rfl (zl (b := a) (o := 0) (C 0 dc) dR), fun _ _ _ _ _ _ D => obl rfl (JD (D 1 dc) dR), ?_, fun _ _ _ _ _ _ _ => obl rfl (mV (Ix a 0) dR), fun _ _ _ _ _ _ E => obl rfl (zl (b := a) (o := 0) (E 4 dc) dR), fun _ _ _ _ _ _ F => obl rfl (JW (F 5 dc) dR), ob1 0 fun _ _ (H : Sep _ _ _ _) I => obl rfl (lD (.map (some t)) Tryz.isAgg120 (I 6 dc) (zd (H.b0) rfl) dR), ?_, ?_, ?_, ?_, trivial⟩ ?_ (hlocA := xt ⟨dA, dA, dA, dA, dA, dA, dA, dA, dT, fun vals i l h => fun c j => (l 9 (.inl rfl)).trans (h c ((l 8 (.inr dc)).symm.trans j)), dT, fun vals i l h => fun d j => (l 11 (.inl rfl)).trans (h d ((l 10 (.inr dc)).symm.trans j)), trivial⟩)
 refine fun q _ _ V X u x => ?_
 have hkk : q = 0 ∨ q = 1 := by have h1 : 0 ≤ q := V; have h2 : q ≤ 1 := X; omega
 rcases hkk with rfl | rfl
 have J : Sep _ _ _ _ := u
 refine obl rfl ?_
 have ok130 : Prj.Ok p := ⟨(show InR (p.ptyp) from e.ptyp), (show InR (p.pfield) from e.pfield), (show InR (p.pgroup) from e.pgroup), (show InR (p.pby) from e.pby), (show InR (p.pmake) from e.pmake)⟩
 exact zg (k := 5) (cs := [Iv (p.ptyp), Iv (p.pfield), Iv (p.pgroup), Iv (p.pby), Iv (p.pmake)]) tT mT rfl (x 2 dc) (CellsAt.sub (CellsAt.all (J.b0)) 0 (cs2 := [Iv (p.ptyp), Iv (p.pfield), Iv (p.pgroup), Iv (p.pby), Iv (p.pmake)]) rfl) dR
 obtain ⟨c, g, K⟩ := u
 refine obl rfl ?_
 have ok133 : Prj.Ok p := ⟨(show InR (p.ptyp) from e.ptyp), (show InR (p.pfield) from e.pfield), (show InR (p.pgroup) from e.pgroup), (show InR (p.pby) from e.pby), (show InR (p.pmake) from e.pmake)⟩
 exact zg (k := 5) (cs := [Iv (p.ptyp), Iv (p.pfield), Iv (p.pgroup), Iv (p.pby), Iv (p.pmake)]) tT mT rfl (x 2 dc) (CellsAt.sub (CellsAt.all (K.b2)) 0 (cs2 := [Iv (p.ptyp), Iv (p.pfield), Iv (p.pgroup), Iv (p.pby), Iv (p.pmake)]) rfl) dR
 refine ob1 0 fun vals _ (Y : Sep _ _ _ _) Z => (obl rfl ((zL (f := 96) (vals := [.map (some t)]) (cap := []) rfl (yN ⟨(Z 7 dc), trivial⟩) Tryz.call96 (KZ  (Y.mv1)) ?_)))
 rintro _ w71 ⟨c, rfl, aa⟩
 exact fun i l n => ⟨(Exists.intro c (And.intro l aa)), trivial⟩
 refine ob1 1 fun _ _ M N => ?_
 obtain ⟨c, g, hS168⟩ := M
 refine obl rfl (zQ (parts' := [(0, .agg (p.cells).toArray), (1, .map (some c))]) (v := .agg #[Iv (p.ptyp), Iv (p.pfield), Iv (p.pgroup), Iv (p.pby), Iv (p.pmake), .map (some c)]) (xH ⟨rfl, (N 3 (by decide)), rfl, g, trivial⟩) yqh (fun i l n => ⟨rfl, ?_⟩))
 intro m270q j
 rw [n 8 (by decide)] at j; cases g.symm.trans j
 exact l
 refine ob1 1 fun vals _ ab ac => ?_
 obtain ⟨c, g, ad⟩ := ab
 have ah : vals 9 = (.agg #[Iv (p.ptyp), Iv (p.pfield), Iv (p.pgroup), Iv (p.pby), Iv (p.pmake), .map (some c)] : Value) := ac 9 dc c g
 refine obl rfl ((zS (v := .agg #[Iv (p.ptyp), Iv (p.pfield), Iv (p.pgroup), Iv (p.pby), Iv (p.pmake), .map (some c)]) ah ?_))
 intro w92 d ae
 exact fun i l n => ⟨(Exists.intro c (Exists.intro d (And.intro ((n 8 dc).trans g) (And.intro l (ad.new ae))))), trivial⟩
 refine ob1 2 fun _ _ O _ => ?_
 obtain ⟨c, d, g, s, hS176⟩ := O
 refine obl rfl (zv (v := Ix d 0) s (fun i l n => ⟨rfl, ?_⟩))
 intro b91q j
 rw [n 10 (by decide)] at j; cases s.symm.trans j
 exact l
 intro vals B P Q
 obtain ⟨c, d, g, s, R⟩ := P
 have af : vals 11 = (Ix d 0 : Value) := Q 11 dc d s
 refine zW (kv := [(0, Ix a 0), (2, Ix d 0)]) ⟨rfl, (by exact af), trivial⟩ (fun ρw177 => (zb (zm (zT Tryz.results83 (show _ = (Ix d 0 : Value) from rfl) ?_))))
 have S : Sep G W ((ProjO a p L) :: (Blk d #[Iv (p.ptyp), Iv (p.pfield), Iv (p.pgroup), Iv (p.pby), Iv (p.pmake), .map (some c)] 122) :: (ZO c L) :: Rs) B := ProjO.close (m := t) e (R.s4_dbac)
 have T : Sep G W ((ProjO d p L) :: (ProjO a p L) :: Rs) B := ProjO.close (m := c) e (S.s3_bca)
 refine ⟨d, rfl, (T.mv1)⟩

end Go.Proofs.YtojlbibionhdjaaGreatDoor
namespace Go.Proofs.YtojlbibionhdjaaGreatDoor
open Go.RowKit

theorem QV (z : Array Value) (hz : 0 < z.size) (n : Nat) : (Builtin.zeroCells z n).toList = (List.replicate n z.toList).flatten := by
  refine List.ext_getElem? fun j => ?_
  have hl : (Builtin.zeroCells z n).toList.length = n * z.size := by simp [Builtin.zeroCells]
  by_cases hj : j < n * z.size
  · rw [Xi z.toList (by simpa using hz) n j (by simpa using hj), List.getElem?_eq_getElem (by rw [hl]; exact hj)]
    have hm : j % z.size < z.size := Nat.mod_lt _ hz
    simp [Builtin.zeroCells, hm]
  · rw [List.getElem?_eq_none (by rw [hl]; omega), List.getElem?_eq_none (by simp [List.length_flatten, List.map_replicate]; omega)]
theorem frz9 {w : World} {b o : Nat} {a : Array Value} {T : TypeId} (h : w.heap[b]? = some (.cells a T)) : w.frozen? ⟨b, o, none⟩ = false := by simp [World.frozen?, h]
structure PtC where
  b : Nat
  deriving Inhabited
structure PtC.Ok (e : PtC) : Prop where
def PtC.cells (e : PtC) : List Value := [.pointer (some ⟨e.b, 0, none⟩)]
instance : Rep PtC where
  k := 1
  rd _ _ cs x := cs = x.cells ∧ x.Ok
  bytes := 8
  bpos := by decide
  kpos := by decide
  len h := by rw [h.1]; rfl
  one h := by rw [h.1]; exact yf ⟨rfl, trivial⟩
  mono h _ := h
instance : Flat PtC := ⟨fun h => h⟩
structure PtV where
  b : Nat
  v : Value
  deriving Inhabited
structure PtV.Ok (e : PtV) : Prop where
  one : e.v.oneCell' = true
def PtV.cells (e : PtV) : List Value := [.pointer (some ⟨e.b, 0, none⟩), e.v]
instance : Rep PtV where
  k := 2
  rd _ _ cs x := cs = x.cells ∧ x.Ok
  bytes := 32
  bpos := by decide
  kpos := by decide
  len h := by rw [h.1]; rfl
  one h := by rw [h.1]; exact yf ⟨rfl, h.2.one, trivial⟩
  mono h _ := h
instance : Flat PtV := ⟨fun h => h⟩

section
variable {α β : Type} {A : α → β → HP}
def Zip (A : α → β → HP) : List α → List β → List HP
  | s :: sh, c :: l => A s c :: Zip A sh l
  | _, _ => []
theorem Zip.get [Inhabited α] [Inhabited β] : ∀ {sh : List α} {l : List β} {i : Nat}, i < sh.length → i < l.length → (Zip A sh l)[i]? = some (A (sh.getD i default) (l.getD i default))
  | _ :: _, _ :: _, 0, _, _ => rfl
  | _ :: _, _ :: _, i + 1, h1, h2 => by
    have := Zip.get (i := i) (by simpa using h1) (by simpa using h2)
    simpa [Zip] using this
  | [], _, i, h, _ => absurd h (Nat.not_lt_zero i)
  | _ :: _, [], i, _, h => absurd h (Nat.not_lt_zero i)
theorem Zip.len : ∀ {sh : List α} {l : List β}, sh.length = l.length → (Zip A sh l).length = l.length
  | [], [], _ => rfl
  | _ :: _, _ :: _, h => by simpa [Zip] using Zip.len (by simpa using h)
  | [], _ :: _, h => by simp at h
  | _ :: _, [], h => by simp at h
theorem Zip.set [Inhabited α] : ∀ {sh : List α} {l : List β} (i : Nat) (c : β), sh.length = l.length → i < l.length → Zip A sh (l.set i c) = (Zip A sh l).set i (A (sh.getD i default) c)
  | [], [], i, _, _, h => absurd h (Nat.not_lt_zero i)
  | _ :: _, _ :: _, 0, _, _, _ => rfl
  | _ :: sh, _ :: l, i + 1, c, h1, h2 => by
    simp only [List.set_cons_succ, Zip]
    rw [Zip.set i c (by simpa using h1) (by simpa using h2)]
    rfl
  | [], _ :: _, _, _, h, _ => by simp at h
  | _ :: _, [], _, _, h, _ => by simp at h
theorem Zip.snoc : ∀ {sh : List α} {l : List β} (s : α) (c : β), sh.length = l.length → Zip A (sh ++ [s]) (l ++ [c]) = Zip A sh l ++ [A s c]
  | [], [], _, _, _ => rfl
  | _ :: sh, _ :: l, s, c, h => by simp only [List.cons_append, Zip]; rw [Zip.snoc s c (by simpa using h)]
  | [], _ :: _, _, _, h => by simp at h
  | _ :: _, [], _, _, h => by simp at h
theorem Zip.cut : ∀ {sh : List α} {l : List β} (i : Nat), ∃ r, Zip A sh l = Zip A (sh.take i) (l.take i) ++ r
  | _ :: _, _ :: _, 0 => ⟨_, rfl⟩
  | s :: sh, c :: l, i + 1 => by
    obtain ⟨r, h⟩ := Zip.cut (sh := sh) (l := l) i
    exact ⟨r, by simp only [List.take_succ_cons, Zip, List.cons_append]; rw [← h]⟩
  | [], _, i => ⟨[], by simp [Zip]⟩
  | _ :: _, [], i => ⟨[], by cases i <;> simp [Zip]⟩
end
section
variable {G : Nat → Prop} {W w : World} {As : List HP} {T : TypeId} {v : Value}
theorem Sep.starFst {As Bs R : List HP} (h : Sep G W (Star (As ++ Bs) :: R) w) : Sep G W (Star As :: R) w := h.impl (i := 0) rfl (fun f ⟨fs, h1, h2⟩ => ⟨fs, fun i C hC => h1 i C (by rw [List.getElem?_append_left (List.getElem?_eq_some_iff.1 hC).1]; exact hC), fun i j hi hj => h2 i j (by simp; omega) (by simp; omega)⟩)
variable {α β : Type} [Rep α] [Inhabited α] [Inhabited β] {A : α → β → HP} {sh : List α} {l : List β}
def ZipW (A : α → β → HP) (T : TypeId) (v : Value) (l : List β) : HP := Ex1 fun sh : List α => VG (sh.length = l.length) (Star [RowE (α := α) own T v sh, Star (Zip A sh l)])
theorem ZipW.open (h : Sep G W (ZipW A T v l :: As) w) : ∃ sh : List α, sh.length = l.length ∧ Sep G W (RowE (α := α) own T v sh :: Star (Zip A sh l) :: As) w := by
  obtain ⟨sh, h1⟩ := h.openEx
  obtain ⟨h2, h3⟩ := h1.openAnd
  exact ⟨sh, h2, h3.openStar⟩
theorem ZipW.mk (hn : sh.length = l.length) (h : Sep G W (RowE (α := α) own T v sh :: Star (Zip A sh l) :: As) w) : Sep G W (ZipW A T v l :: As) w :=
  Sep.closeEx (A := fun sh : List α => VG (sh.length = l.length) (Star [RowE (α := α) own T v sh, Star (Zip A sh l)])) sh (Sep.closeAnd hn (Sep.closeStar (Bs := [RowE (α := α) own T v sh, Star (Zip A sh l)]) h))
theorem ZipW.take {i : Nat} (hn : sh.length = l.length) (hi : i < l.length) (h : Sep G W (Star (Zip A sh l) :: As) w) : Sep G W (A (sh.getD i default) (l.getD i default) :: Star ((Zip A sh l).set i Emp) :: As) w := h.takeStar (Zip.get (by omega) hi)
theorem ZipW.put {i : Nat} {c : β} (hn : sh.length = l.length) (hi : i < l.length) (h : Sep G W (A (sh.getD i default) c :: Star ((Zip A sh l).set i Emp) :: As) w) : Sep G W (Star (Zip A sh (l.set i c)) :: As) w := by
  have h1 := h.putStar (i := i) (by rw [List.length_set, Zip.len hn]; exact hi)
  rw [List.set_set, ← Zip.set i c hn hi] at h1
  exact h1
theorem ZipW.back {i : Nat} (hn : sh.length = l.length) (hi : i < l.length) (h : Sep G W (A (sh.getD i default) (l.getD i default) :: Star ((Zip A sh l).set i Emp) :: As) w) : Sep G W (Star (Zip A sh l) :: As) w := by
  have h1 := ZipW.put hn hi h
  rw [zw _ hi, List.set_getElem_self] at h1
  exact h1
theorem ZipW.snoc {s : α} {c : β} (hn : sh.length = l.length) (h : Sep G W (RowE (α := α) own T v (sh ++ [s]) :: Star (Zip A sh l) :: A s c :: As) w) : Sep G W (ZipW A T v (l ++ [c]) :: As) w := by
  have h2 : Sep G W (Star (Zip A sh l ++ [A s c]) :: RowE (α := α) own T v (sh ++ [s]) :: As) w := (h.sel 3 [2, 1, 0] (Nat.le_add_left _ _) rfl rfl).snocStar
  rw [← Zip.snoc s c hn] at h2
  exact ZipW.mk (by rw [List.length_append, List.length_append, hn]; rfl) (h2.sel 2 [1, 0] (Nat.le_add_left _ _) rfl rfl)
theorem ZipW.nil (A : α → β → HP) (T : TypeId) (h : Sep G W As w) : Sep G W (ZipW A T (.slice none 0 0) [] :: As) w := ZipW.mk (sh := []) rfl (h.nilStar.rowNil own T)
theorem Sep.zipSl (h : Sep G W As w) {i : Nat} (hi : As[i]? = some (ZipW A T v l)) : IsSl v l.length := by
  obtain ⟨f, ⟨sh, hn, hst⟩, _⟩ := h.get hi
  have h1 := RowE.isSl (T := T) (Star.at_ hst (i := 0) rfl)
  rw [hn] at h1
  exact h1
theorem ZipW.cut {i : Nat} (hn : sh.length = l.length) (h : Sep G W (RowE (α := α) own T v (sh.take i) :: Star (Zip A sh l) :: As) w) : Sep G W (ZipW A T v (l.take i) :: As) w := by
  obtain ⟨r, hr⟩ := Zip.cut (A := A) (sh := sh) (l := l) i
  rw [hr] at h
  exact ZipW.mk (by rw [List.length_take, List.length_take, hn]) ((h.sel 2 [1, 0] (Nat.le_add_left _ _) rfl rfl).starFst.sel 2 [1, 0] (Nat.le_add_left _ _) rfl rfl)
end
section
variable {α : Type} [Rep α] {src : Src α} {G : Nat → Prop} {W w : World} {As : List HP} {T : TypeId} {v : Value} {l : List α}
theorem Sep.rowSome (h : Sep G W As w) {i : Nat} (hi : As[i]? = some (RowE src T v l)) (hl : 0 < l.length) : ∃ g cap, v = .slice (some ⟨g, 0, none⟩) l.length cap ∧ l.length ≤ cap := by
  obtain ⟨f, ⟨css, _, hown, _, _⟩, _⟩ := h.get hi
  rcases hown.2 with ⟨_, h0⟩ | ⟨g, cap, cur, e, _, _, hn, _⟩
  · omega
  · exact ⟨g, cap, e, hn⟩
theorem YI {w : World} {g n cap i k : Nat} {css : List (List Value)} (hk : ∀ c ∈ css, c.length = k) (hcs : css.length = n) (hi : i ≤ n) (h : w.ownsRow 0 T k (.slice (some ⟨g, 0, none⟩) n cap) n css.flatten) : w.ownsRow 0 T k (.slice (some ⟨g, 0, none⟩) i cap) i (css.take i).flatten := by
  have hfl : ∀ (c : List (List Value)), (∀ x ∈ c, x.length = k) → c.flatten.length = c.length * k := by
    intro c
    induction c with
    | nil => intro _; simp
    | cons x c ih => intro h; rw [List.flatten_cons, List.length_append, ih (fun y hy => h y (List.mem_cons_of_mem _ hy)), h x (List.mem_cons_self ..), List.length_cons, Nat.add_mul]; omega
  have hft : ∀ (c : List (List Value)) (i : Nat), (∀ x ∈ c, x.length = k) → c.flatten.take (i * k) = (c.take i).flatten := by
    intro c
    induction c with
    | nil => intro i _; simp
    | cons x c ih =>
      intro i h
      cases i with
      | zero => simp
      | succ i =>
        have hx := h x (List.mem_cons_self ..)
        rw [List.take_succ_cons, List.flatten_cons, List.flatten_cons, ← ih i (fun y hy => h y (List.mem_cons_of_mem _ hy)), show (i + 1) * k = x.length + i * k by rw [hx, Nat.add_mul]; omega, List.take_length_add_append]
  refine ⟨by rw [hfl _ (fun x hx => hk x (List.mem_of_mem_take hx)), List.length_take, hcs, Nat.min_eq_left hi], .inr ?_⟩
  rcases h.2 with ⟨e, _⟩ | ⟨g', cap', cur, e, hg, hb, hn, hm, hs, ht⟩
  · cases e
  · cases e
    refine ⟨g, cap, cur, rfl, hg, hb, by omega, hm, hs, ?_⟩
    rw [← hft css i hk, ← ht, List.take_take, Nat.min_eq_left (Nat.mul_le_mul_right k hi)]
theorem Sep.rowCut {g n cap i : Nat} (h : Sep G W (RowE src T (.slice (some ⟨g, 0, none⟩) n cap) l :: As) w) (hn : l.length = n) (hi : i ≤ n) : Sep G W (RowE src T (.slice (some ⟨g, 0, none⟩) i cap) (l.take i) :: As) w := by
  refine h.impl (i := 0) rfl (fun f hA => ?_)
  obtain ⟨css, hE, hown, hrow, hsm⟩ := hA
  have hcl := hE.length
  have hk : ∀ c ∈ css, c.length = Rep.k α := fun c hc => by
    obtain ⟨j, hj, rfl⟩ := List.getElem_of_mem hc
    exact src.len (EP.at2 hE j hj (by omega))
  subst hn
  have e : (l.take i).length = i := by rw [List.length_take, Nat.min_eq_left hi]
  refine ⟨css.take i, EP.mono (fun cs x hx => (src.el cs x).weak hx (fun b hb _ => hb)) (hE.take i), ?_, hrow, ?_⟩
  · rw [e]; exact YI hk hcl hi hown
  · rw [e]; exact Nat.le_trans (Nat.mul_le_mul_right _ hi) hsm
end
section
variable {P : Program} {d : Option Tmp} {ty : TypeId} {pos : String} {af : Array Edge} {gd : Option (Nat × Bool)} {σ : Env} {w : World} {K : Value → World → Prop} {g k : Nat}
theorem Xr {t e : TypeId} {x y : Operand} {n c j : Nat} (hU : P.underlying t = some (.slice e)) (hS : ∀ w, (sizeOf e).run P w = .ok k w) (hx : ev σ x = .slice (some ⟨g, 0, none⟩) n c)
    (hhi : ev σ y = .int .i64 (j : Nat)) (hin : j ≤ n) (hnc : n ≤ c) (h : K (.slice (some ⟨g, 0, none⟩) j c) w) : opV P ⟨d, .slice t x none (some y) none, ty, pos, af, gd⟩ σ w K := by
  refine zM (v := .slice (some ⟨g, 0, none⟩) j c) (w' := w) ?_ h
  have hb : ¬ c < j := by omega
  by_cases hc : c = 0
  · obtain rfl : j = 0 := by omega
    simp [execOp, *, Instr.sliceAt, Instr.slice, Instr.sliceBounds, run_underlying hU, hS, go_sem, Addr.add_lit]
  · simp [execOp, *, Instr.sliceAt, Instr.slice, Instr.sliceBounds, run_underlying hU, hS, go_sem, Addr.add_lit]
theorem WL {t e : TypeId} {x y : Operand} {n c i : Nat} (hU : P.underlying t = some (.slice e)) (hS : ∀ w, (sizeOf e).run P w = .ok k w) (hx : ev σ x = .slice (some ⟨g, 0, none⟩) n c)
    (hlo : ev σ y = .int .i64 (i : Nat)) (hin : i ≤ n) (hnc : n ≤ c) (h : K (.slice (some ⟨g, if c = i then 0 else i * k, none⟩) (n - i) (c - i)) w) : opV P ⟨d, .slice t x (some y) none none, ty, pos, af, gd⟩ σ w K := by
  refine zM (v := .slice (some ⟨g, if c = i then 0 else i * k, none⟩) (n - i) (c - i)) (w' := w) ?_ h
  have hb : ¬ c < n := by omega
  have hb2 : ¬ n < i := by omega
  by_cases hc : c = i
  · simp [execOp, *, Instr.sliceAt, Instr.slice, Instr.sliceBounds, run_underlying hU, hS, go_sem, Addr.add_lit]
  · simp [execOp, *, Instr.sliceAt, Instr.slice, Instr.sliceBounds, run_underlying hU, hS, go_sem, Addr.add_lit]
theorem Qv {α : Type} [Rep α] {src : Src α} {G : Nat → Prop} {W : World} {As : List HP} {T : TypeId} {l : List α} {t e : TypeId} {x : Operand} {n c i : Nat} {z : Value} (hU : P.underlying t = some (.slice e)) (hv : ∀ w, (zeroValue e).run P w = .ok z w) (hz : z.cells.toList.length = Rep.k α) (hz1 : ∀ u ∈ z.cells.toList, u.oneCell' = true)
    (h : Sep G W (RowE src T (.slice (some ⟨g, 0, none⟩) n c) l :: As) w) (hn : l.length = n) (hi : i ≤ n) (hx : ev σ x = .slice (some ⟨g, if c = i then 0 else i * Rep.k α, none⟩) (n - i) (c - i))
    (hK : ∀ w', Sep G W (RowE src T (.slice (some ⟨g, 0, none⟩) i c) (l.take i) :: As) w' → K (.tuple #[]) w') : opV P ⟨d, .call ⟨.builtin .clear, #[x], #[t]⟩, ty, pos, af, gd⟩ σ w K := by
  have hkp : 0 < Rep.k α := Rep.kpos (α := α)
  subst hn
  by_cases hni : l.length = i
  · subst hni
    have hr : (Builtin.clear_ #[t] ty #[.slice (some ⟨g, if c = l.length then 0 else l.length * Rep.k α, none⟩) (l.length - l.length) (c - l.length)]).run P w = .ok (.tuple #[]) w := by
      rw [Nat.sub_self]
      simp [Builtin.clear_, run_underlying hU, World.setCells]
    refine zM (v := .tuple #[]) (w' := w) ?_ (hK _ (h.rowCut rfl hi))
    unfold execOp
    simp only [resolve, invoke, builtin, Sem.run_bind, Sem.run_pure, Result.andThen_ok, List.map_toArray, List.map_cons, List.map_nil, hx, hr]
  · obtain ⟨f0, ⟨css0, _, hown0, _, _⟩, _⟩ := h.get (i := 0) rfl
    rcases hown0.2 with ⟨e0, _⟩ | ⟨g', cap, cur, e0, _, hb, hnc, hm, hs, ht⟩
    · cases e0
    cases e0
    have hci : ¬ c = i := by omega
    rw [if_neg hci] at hx
    have hz0 : 0 < z.cells.size := by rw [← Array.length_toList, hz]; exact hkp
    generalize hS : (List.replicate (l.length - i) z.cells.toList).flatten = S
    have hSl : S.length = (l.length - i) * Rep.k α := by
      rw [← hS, List.length_flatten, List.map_replicate, List.sum_replicate_nat, hz]
    have hS1 : ∀ u ∈ S, u.oneCell' = true := fun u hu => by
      rw [← hS] at hu
      obtain ⟨q, hq, huq⟩ := List.mem_flatten.1 hu
      rw [List.eq_of_mem_replicate hq] at huq
      exact hz1 u huq
    have hcl : cur.toList.length = c * Rep.k α := by rw [Array.length_toList]; exact hs
    have hle : i * Rep.k α + S.length ≤ cur.toList.length := by
      rw [hSl, hcl, ← Nat.add_mul]
      exact Nat.mul_le_mul_right _ (by omega)
    have hsome : ∀ j, j < cur.toList.length → (w.cell? ⟨g, j, none⟩).isSome = true := fun j hj => by
      simp only [World.cell?, hb]
      simpa [Array.getElem?_eq_some_iff] using hj
    have hst := run_storeCells_cells (P := P) g (i * Rep.k α) S 0 w (fun j hj => by rw [Nat.add_zero]; exact hsome _ (by omega)) (fun j _ => frz9 hb) hS1
    simp only [Nat.add_zero] at hst
    have hr : (Builtin.clear_ #[t] ty #[.slice (some ⟨g, i * Rep.k α, none⟩) (l.length - i) (c - i)]).run P w = .ok (.tuple #[]) (w.setCells g (i * Rep.k α) S) := by
      obtain ⟨q, hq⟩ : ∃ q, l.length - i = q + 1 := ⟨l.length - i - 1, by omega⟩
      rw [hq] at hS ⊢
      subst hS
      simp [Builtin.clear_, run_underlying hU, hv, QV _ hz0, hst]
    have hwr := yY S (i * Rep.k α) w cur hb
    rw [Zm _ _ _ hle] at hwr
    refine zM (v := .tuple #[]) (w' := w.setCells g (i * Rep.k α) S) ?_ (hK _ (h.upd (i := 0) rfl (fun f hA _ => ?_)))
    · unfold execOp
      simp only [resolve, invoke, builtin, Sem.run_bind, Sem.run_pure, Result.andThen_ok, List.map_toArray, List.map_cons, List.map_nil, hx, hr]
    · obtain ⟨css, hE, hown, hrow, hsm⟩ := hA
      have hfg : f g := hrow g rfl
      refine ⟨(hwr.chg hb).weak (fun b _ hb' => hb' ▸ hfg), f, ?_, fun b hb' => .inl hb'⟩
      have hkc : ∀ c ∈ css, c.length = Rep.k α := fun c hc => by
        obtain ⟨j, hj, rfl⟩ := List.getElem_of_mem hc
        exact src.len (EP.at2 hE j hj (by have := hE.length; omega))
      have e : (l.take i).length = i := by rw [List.length_take, Nat.min_eq_left (by omega)]
      refine ⟨css.take i, (EP.mono (fun cs x hx => (src.el cs x).loc hx (fun b hb' hlt => ⟨?_, hb'⟩)) hE).take i, ?_, hrow, ?_⟩
      · exact hwr.other b (fun e => hb'.2 (by rw [e]; rfl))
      · rw [e]
        have h9 := YI hkc hE.length (show i ≤ l.length by omega) hown
        refine ⟨h9.1, .inr ?_⟩
        rcases h9.2 with ⟨e9, _⟩ | ⟨g9, c9, cur9, e9, hg9, hb9, hn9, hm9, hs9, ht9⟩
        · cases e9
        · cases e9
          have ec : cur9 = cur := by
            have := hb9.symm.trans hb
            simp only [Option.some.injEq, Obj.cells.injEq] at this
            exact this.1
          subst ec
          obtain ⟨a, ha, hb2⟩ := hwr.at_
          refine ⟨g, c, a, rfl, hg9, hb2, hn9, hm9, ?_, ?_⟩
          · rw [← Array.length_toList, ha, ← hcl, List.length_append, List.length_append, List.length_take, List.length_drop]; omega
          · rw [ha, ← ht9, List.append_assoc, List.take_append_of_le_length (by rw [List.length_take]; omega), List.take_take, Nat.min_self]
      · rw [e]; exact Nat.le_trans (Nat.mul_le_mul_right _ (by omega)) hsm
end
end Go.Proofs.YtojlbibionhdjaaGreatDoor
set_option maxRecDepth 8000
set_option maxHeartbeats 4000000
namespace Go.Proofs.YtojlbibionhdjaaGreatDoor
open Go.Proofs Go.RowKit

def xo (s : PtC) (x : PR) : HP := ProjO s.b x.1 x.2
def zU (v : Value) (L : List PR) : HP := ZipW xo 93 v L
def PtA (s : PtV) (L : List PR) : HP := zU s.v L
def yG (v : Value) (P : List (List PR)) : HP := ZipW PtA 78 v P
def BaseO (b : Nat) (d : Dcl) (every : Nat) (evs : List Ev) : HP := VG (1 ≤ every ∧ every ≤ 9223372036854775807) (Ex1 fun vt => Ex1 fun vp => Ex1 fun ve => Ex1 fun (yt : Nat) => Ex1 fun vr => Ex1 fun vpts => Star [Blk b #[vt, vp, .int .i64 ((every : Nat) : Int), ve, .pointer (some ⟨yt, 0, none⟩), vr, vpts] 81, RowE (α := Typ) own 84 vt d.types, RowE (α := Prj) own 46 vp d.projs, RowE (α := Ev) own 64 ve evs, ViewO yt d (zu d evs) (zu d evs), zU vr (prs d evs), yG vpts (yo d every evs)])
section
variable {G : Nat → Prop} {W w : World} {As : List HP} {b every : Nat} {d : Dcl} {evs : List Ev}
theorem Sep.evOk {T : TypeId} {v : Value} (h : Sep G W As w) {i : Nat} (hi : As[i]? = some (RowE (α := Ev) own T v evs)) : ∀ x ∈ evs, x.Ok := fun x hx => by
  obtain ⟨j, hj, rfl⟩ := List.getElem_of_mem hx
  obtain ⟨cs, f, _, hr⟩ := h.rowAt hi hj
  obtain ⟨_, _, _, ho⟩ := hr
  exact ho
theorem BaseO.open (h : Sep G W (BaseO b d every evs :: As) w) : (1 ≤ every ∧ every ≤ 9223372036854775807) ∧ ∃ vt vp ve yt vr vpts, Sep G W (Blk b #[vt, vp, .int .i64 ((every : Nat) : Int), ve, .pointer (some ⟨yt, 0, none⟩), vr, vpts] 81 :: RowE (α := Typ) own 84 vt d.types :: RowE (α := Prj) own 46 vp d.projs :: RowE (α := Ev) own 64 ve evs :: ViewO yt d (zu d evs) (zu d evs) :: zU vr (prs d evs) :: yG vpts (yo d every evs) :: As) w := by
  obtain ⟨h0, h⟩ := h.openAnd
  obtain ⟨vt, h⟩ := h.openEx
  obtain ⟨vp, h⟩ := h.openEx
  obtain ⟨ve, h⟩ := h.openEx
  obtain ⟨yt, h⟩ := h.openEx
  obtain ⟨vr, h⟩ := h.openEx
  obtain ⟨vpts, h⟩ := h.openEx
  exact ⟨h0, vt, vp, ve, yt, vr, vpts, h.openStar⟩
theorem BaseO.close {vt vp ve vr vpts : Value} {yt : Nat} (h0 : 1 ≤ every ∧ every ≤ 9223372036854775807) (h : Sep G W (Blk b #[vt, vp, .int .i64 ((every : Nat) : Int), ve, .pointer (some ⟨yt, 0, none⟩), vr, vpts] 81 :: RowE (α := Typ) own 84 vt d.types :: RowE (α := Prj) own 46 vp d.projs :: RowE (α := Ev) own 64 ve evs :: ViewO yt d (zu d evs) (zu d evs) :: zU vr (prs d evs) :: yG vpts (yo d every evs) :: As) w) : Sep G W (BaseO b d every evs :: As) w := by
  have h := Sep.closeStar (Bs := [Blk b #[vt, vp, .int .i64 ((every : Nat) : Int), ve, .pointer (some ⟨yt, 0, none⟩), vr, vpts] 81, RowE (α := Typ) own 84 vt d.types, RowE (α := Prj) own 46 vp d.projs, RowE (α := Ev) own 64 ve evs, ViewO yt d (zu d evs) (zu d evs), zU vr (prs d evs), yG vpts (yo d every evs)]) h
  exact Sep.closeAnd h0 (Sep.closeEx (A := fun vt => Ex1 fun vp => Ex1 fun ve => Ex1 fun (yt : Nat) => Ex1 fun vr => Ex1 fun vpts => Star [Blk b #[vt, vp, .int .i64 ((every : Nat) : Int), ve, .pointer (some ⟨yt, 0, none⟩), vr, vpts] 81, RowE (α := Typ) own 84 vt d.types, RowE (α := Prj) own 46 vp d.projs, RowE (α := Ev) own 64 ve evs, ViewO yt d (zu d evs) (zu d evs), zU vr (prs d evs), yG vpts (yo d every evs)]) vt (Sep.closeEx (A := fun vp => Ex1 fun ve => Ex1 fun (yt : Nat) => Ex1 fun vr => Ex1 fun vpts => Star [Blk b #[vt, vp, .int .i64 ((every : Nat) : Int), ve, .pointer (some ⟨yt, 0, none⟩), vr, vpts] 81, RowE (α := Typ) own 84 vt d.types, RowE (α := Prj) own 46 vp d.projs, RowE (α := Ev) own 64 ve evs, ViewO yt d (zu d evs) (zu d evs), zU vr (prs d evs), yG vpts (yo d every evs)]) vp (Sep.closeEx (A := fun ve => Ex1 fun (yt : Nat) => Ex1 fun vr => Ex1 fun vpts => Star [Blk b #[vt, vp, .int .i64 ((every : Nat) : Int), ve, .pointer (some ⟨yt, 0, none⟩), vr, vpts] 81, RowE (α := Typ) own 84 vt d.types, RowE (α := Prj) own 46 vp d.projs, RowE (α := Ev) own 64 ve evs, ViewO yt d (zu d evs) (zu d evs), zU vr (prs d evs), yG vpts (yo d every evs)]) ve (Sep.closeEx (A := fun (yt : Nat) => Ex1 fun vr => Ex1 fun vpts => Star [Blk b #[vt, vp, .int .i64 ((every : Nat) : Int), ve, .pointer (some ⟨yt, 0, none⟩), vr, vpts] 81, RowE (α := Typ) own 84 vt d.types, RowE (α := Prj) own 46 vp d.projs, RowE (α := Ev) own 64 ve evs, ViewO yt d (zu d evs) (zu d evs), zU vr (prs d evs), yG vpts (yo d every evs)]) yt (Sep.closeEx (A := fun vr => Ex1 fun vpts => Star [Blk b #[vt, vp, .int .i64 ((every : Nat) : Int), ve, .pointer (some ⟨yt, 0, none⟩), vr, vpts] 81, RowE (α := Typ) own 84 vt d.types, RowE (α := Prj) own 46 vp d.projs, RowE (α := Ev) own 64 ve evs, ViewO yt d (zu d evs) (zu d evs), zU vr (prs d evs), yG vpts (yo d every evs)]) vr (Sep.closeEx (A := fun vpts =>  Star [Blk b #[vt, vp, .int .i64 ((every : Nat) : Int), ve, .pointer (some ⟨yt, 0, none⟩), vr, vpts] 81, RowE (α := Typ) own 84 vt d.types, RowE (α := Prj) own 46 vp d.projs, RowE (α := Ev) own 64 ve evs, ViewO yt d (zu d evs) (zu d evs), zU vr (prs d evs), yG vpts (yo d every evs)]) vpts h))))))
end
theorem KP {G : Nat → Prop} {W w : World} {Rs : List HP} {e : Ev} {de0 : Value} (hde0 : RdS W G de0 e.deps) (oe : e.Ok) (hS0 : Sep G W Rs w) : Ret Tryz.prog 65 [.agg (e.cells de0).toArray] w (fun r w' => ∃ (v : Value), r = (.agg (e.cells v).toArray : Value) ∧ Sep G W ((RowE (α := Int) own 3 v e.deps) :: Rs) w') := by
 have hde0s : _ * 8 ≤ _ := hde0.small
 refine zk (args := [.agg (e.cells de0).toArray]) Tryz.func65 rfl rfl ?_
 refine za (R0 fun _ => st (zS (v := .agg (e.cells de0).toArray) rfl ?_))
 intro w3 b2 n
 refine st (zI vR ?_)
 intro w7 p o
 have i := (hS0.new n).new o
 refine zb (za (R0 fun _ => st (Ze rfl (st (lD de0 Tryz.isAgg62 rfl (zd (i.b1) rfl) (st (cL Tryz.call87 (Zh (l := e.deps) (vl := de0) hde0 i) ?_)))))))
 rintro g w10 ⟨_, rfl, a⟩
 have d := a.r0
 have hr12s : _ * 8 ≤ _ := d.2
 refine st (Ze rfl (stn (yq (v := g) (c := [Iv (e.origin), Iv (e.seq), Iv (e.lam), de0, Iv (e.typ), Iv (e.agg), Iv (e.field), Iv (e.op), Iv (e.arg), Iv (e.key)]) (c' := [Iv (e.origin), Iv (e.seq), Iv (e.lam), g, Iv (e.typ), Iv (e.agg), Iv (e.field), Iv (e.op), Iv (e.arg), Iv (e.key)]) Tryz.sizeOf62 rfl rfl (a.b2) d.1.one rfl rfl ?_)))
 intro w13 j
 have ok15 : Ev.Ok e := ⟨(show InR (e.origin) from oe.origin), (show InR (e.seq) from oe.seq), (show InR (e.lam) from oe.lam), (show InR (e.typ) from oe.typ), (show InR (e.agg) from oe.agg), (show InR (e.field) from oe.field), (show InR (e.op) from oe.op), (show InR (e.arg) from oe.arg), (show InR (e.key) from oe.key)⟩
 have f := a.pt2 j
 refine zb (za (R0 fun _ => st (zg (k := 10) uT nT rfl rfl (CellsAt.all (f.b2)) (stn (zA (v := .agg (e.cells g).toArray) (c' := (e.cells g).toArray) nT rfl rfl (f.b1) (yf ⟨rfl, rfl, rfl, d.1.one, rfl, rfl, rfl, rfl, rfl, rfl, trivial⟩) yqc rfl ?_)))))
 intro w17 m
 have h := f.pt1 m
 refine zb (zm (VO (b := p) Tryz.results65 uT nT rfl rfl (CellsAt.all (h.b1)) ?_))
 refine ⟨g, rfl, (h.s3_a)⟩

end Go.Proofs.YtojlbibionhdjaaGreatDoor
set_option maxRecDepth 8000
set_option maxHeartbeats 4000000
namespace Go.Proofs.YtojlbibionhdjaaGreatDoor
open Go.Proofs Go.RowKit

theorem el76 : Elem Tryz.prog 76 93 1 8 := ⟨sT, _, _, rfl, rfl, rfl, rfl, rfl⟩
theorem KL {G : Nat → Prop} {W w : World} {Rs : List HP} {b every yt : Nat} {d : Dcl} {evs : List Ev} {vt vp ve vr vpts : Value} {pv : Nat} {vq : Value} {LL : List PR} (hKN : RdS W G (.slice (some ⟨0, 0, none⟩) 6 6) kindsL) (hS0 : Sep G W ((Blk b #[vt, vp, .int .i64 ((every : Nat) : Int), ve, .pointer (some ⟨yt, 0, none⟩), vr, vpts] 81) :: (RowE (α := Typ) own 84 vt d.types) :: (RowE (α := Prj) own 46 vp d.projs) :: (RowE (α := Ev) own 64 ve evs) :: (zU vq LL) :: Rs) w) (hd : DclOk d) (hfew : evs.length ≤ 1000000) : Ret Tryz.prog 62 [.pointer (some ⟨b, 0, none⟩), .agg #[.pointer (some ⟨pv, 0, none⟩), vq]] w (fun r w' => ∃ (nv : Nat) (v2 : Value), r = (.agg #[.pointer (some ⟨nv, 0, none⟩), v2] : Value) ∧ Sep G W ((Blk b #[vt, vp, .int .i64 ((every : Nat) : Int), ve, .pointer (some ⟨yt, 0, none⟩), vr, vpts] 81) :: (RowE (α := Typ) own 84 vt d.types) :: (RowE (α := Prj) own 46 vp d.projs) :: (RowE (α := Ev) own 64 ve evs) :: (zU vq LL) :: (ViewO nv d (zu d evs) (zu d evs)) :: (zU v2 LL) :: Rs) w') := by
 let cz := Blk b #[vt, vp, Iw every, ve, Ix yt 0, vr, vpts] 81
 have hKNs : _ * 8 ≤ _ := hKN.small
 refine zk (args := [Ix b 0, .agg #[Ix pv 0, vq]]) Tryz.func62 rfl rfl ?_
 have cu := hS0.r1
 have hr1s : _ * 24 ≤ _ := cu.2
 have cv := hS0.r2
 have hr2s : _ * 40 ≤ _ := cv.2
 have cw := hS0.r3
 have hr3s : _ * 96 ≤ _ := cw.2
 refine za (R0 fun _ => st (zS (v := .agg #[Ix pv 0, vq]) rfl ?_))
 intro w6 J cx
 let cC := Blk J #[Ix pv 0, vq] 78
 refine st (zI vT ?_)
 intro ae I cy
 let cA := Blk I #[.pointer none, (Iz)] 78
 refine zb (za ?_)
 obtain ⟨G13, ca, aL, cb, cc⟩ := (((hS0.new cx).new cy).mv3).lend
 have U := RowE.rd ca
 have hrd19s : _ * 24 ≤ _ := U.small
 obtain ⟨G21, cd, V, ce, cf⟩ := (cb.mv3).lend
 have X := RowE.rd cd
 have hrd27s : _ * 40 ≤ _ := X.small
 obtain ⟨af, cg, K, ch, ci⟩ := (ce.mv3).lend
 have Y := RowE.rd cg
 have hrd35s : _ * 96 ≤ _ := Y.small
 refine WD6 ((fun TT F => WF [fun vals E => Sep af ae (F :: TT) E, fun vals E => ∃ (e : Nat), (vals 8 = (Ix e 0 : Value)) ∧ Sep af ae ((ViewO e d (zu d evs) (zu d evs)) :: F :: TT) E, fun vals E => ∃ (p : Nat), (vals 10 = (Ix p 0 : Value)) ∧ Sep af ae ((Blk p #[.pointer none, (Iz)] 78) :: F :: TT) E, fun vals E => ∃ (e : Nat) (p : Nat), (vals 8 = (Ix e 0 : Value)) ∧ (vals 10 = (Ix p 0 : Value)) ∧ Sep af ae ((Blk p #[.pointer none, (Iz)] 78) :: (ViewO e d (zu d evs) (zu d evs)) :: F :: TT) E, fun _ _ => True, fun _ _ => True, fun _ _ => True, fun vals E => ∃ (e : Nat) (p : Nat), (vals 8 = (Ix e 0 : Value)) ∧ (vals 10 = (Ix p 0 : Value)) ∧ Sep af ae ((Blk p #[Ix e 0, (Iz)] 78) :: (ViewO e d (zu d evs) (zu d evs)) :: F :: TT) E]) (cC :: cz :: (zU vq LL) :: Rs) cA) (AF [Vl 0 (Ix b 0), Vl 1 (Ix b 0), Vl 2 (Ix b 0), Vl 3 (.agg (d.cells vt vp).toArray), Vl 4 (Ix b 0), Vl 5 (Ix b 0), Vl 6 (Ix b 3), Vl 7 (ve), fun _ => True, fun vals => ∀ (e : Nat), vals 8 = (Ix e 0 : Value) → vals 9 = (.agg #[Ix e 0, (Iz)] : Value), fun _ => True, fun _ => True]) [[], [0], [0, 1], [0, 1, 2], [], [4], [4, 5], [4, 5, 6], (rg 8), (rg 9), [], (rg 11)] [8, 10, 11] [[0, 2], [0, 2], [0, 2], [0, 2], [0, 2], [0, 2], [0, 2], [0, 2], [0, 2], [1, 3], [0, 1], [3]] ch ⟨fun _ _ _ _ _ _ => obl rfl (mV (Ix b 0) dR), fun _ _ _ _ _ aQ => obl rfl (zl (b := b) (o := 0) (aQ 0 dc) dR), fun _ _ _ _ _ aR => obl rfl (Yz (aR 1 dc) dR), ?_, fun _ _ _ _ _ _ => obl rfl (mV (Ix b 0) dR), fun _ _ _ _ _ aT => obl rfl (zl (b := b) (o := 0) (aT 4 dc) dR), fun _ _ _ _ _ aU => obl rfl (xW (aU 5 dc) dR), ?_, ?_, ?_, ?_, ?_, trivial⟩ ?_ (hlocA := xt ⟨dA, dA, dA, dA, dA, dA, dA, dA, dT, fun vals u D h => fun e P => (D 9 (.inl rfl)).trans (h e ((D 8 (.inr dc)).symm.trans P)), dT, dT, trivial⟩)
 intro cj vals w147 aV ax ay
 have ag : cj ∈ [0, 2] := aV
 simp only [List.mem_cons, List.not_mem_nil, or_false] at ag
 rcases ag with rfl | rfl
 have aW : Sep _ _ _ _ := ax
 refine obl rfl ?_
 have ok153 : Dcl.Ok d := ⟨⟩
 exact zg (k := 2) (cs := [vt, vp]) pR qR rfl (ay 2 dc) (CellsAt.sub (CellsAt.all (aW.b2)) 0 (cs2 := [vt, vp]) rfl) dR
 obtain ⟨p, z, aX⟩ := ax
 refine obl rfl ?_
 have ok156 : Dcl.Ok d := ⟨⟩
 exact zg (k := 2) (cs := [vt, vp]) pR qR rfl (ay 2 dc) (CellsAt.sub (CellsAt.all (aX.b3)) 0 (cs2 := [vt, vp]) rfl) dR
 intro ck vals w175 aY az aA
 have ah : ck ∈ [0, 2] := aY
 simp only [List.mem_cons, List.not_mem_nil, or_false] at ah
 rcases ah with rfl | rfl
 have aZ : Sep _ _ _ _ := az
 exact obl rfl (lD ve pT (aA 6 dc) (zd (aZ.b2) rfl) dR)
 obtain ⟨p, z, ba⟩ := az
 exact obl rfl (lD ve pT (aA 6 dc) (zd (ba.b3) rfl) dR)
 intro cl vals w184 bb aB L
 have ai : cl ∈ [0, 2] := bb
 simp only [List.mem_cons, List.not_mem_nil, or_false] at ai
 rcases ai with rfl | rfl
 have bc : Sep _ _ _ _ := aB
 refine obl rfl ((zL (f := 82) (vals := [.agg (d.cells vt vp).toArray, ve]) (cap := []) rfl (yN ⟨(L 3 dc), (L 7 dc), trivial⟩) wR (zaa (d := d) (l := evs) (vl := ve) (RdS.base (RdS.base U V) K) (RdS.base X K) (⟨⟩ : Dcl.Ok d) Y (RdS.base (RdS.base (RdS.base hKN aL) V) K) bc (hd) (hfew)) ?_))
 rintro _ w192 ⟨e, rfl, bd⟩
 exact fun u D t => ⟨(Exists.intro e (And.intro D bd)), trivial⟩
 obtain ⟨p, z, be⟩ := aB
 refine obl rfl ((zL (f := 82) (vals := [.agg (d.cells vt vp).toArray, ve]) (cap := []) rfl (yN ⟨(L 3 dc), (L 7 dc), trivial⟩) wR (zaa (d := d) (l := evs) (vl := ve) (RdS.base (RdS.base U V) K) (RdS.base X K) (⟨⟩ : Dcl.Ok d) Y (RdS.base (RdS.base (RdS.base hKN aL) V) K) be (hd) (hfew)) ?_))
 rintro _ w198 ⟨e, rfl, bf⟩
 exact fun u D t => ⟨(Exists.intro e (Exists.intro p (And.intro D (And.intro ((t 10 dc).trans z) (bf.mv1))))), trivial⟩
 intro cm vals w202 bg aC hA203
 have aj : cm ∈ [1, 3] := bg
 simp only [List.mem_cons, List.not_mem_nil, or_false] at aj
 rcases aj with rfl | rfl
 obtain ⟨e, C, hS206⟩ := aC
 refine obl rfl (zQ (parts' := [(0, Ix e 0)]) (v := .agg #[Ix e 0, (Iz)]) (xH ⟨rfl, C, trivial⟩) yqh (fun u D t => ⟨rfl, ?_⟩))
 intro cn P
 rw [t 8 (by decide)] at P; cases C.symm.trans P
 exact D
 obtain ⟨e, p, C, z, hS207⟩ := aC
 refine obl rfl (zQ (parts' := [(0, Ix e 0)]) (v := .agg #[Ix e 0, (Iz)]) (xH ⟨rfl, C, trivial⟩) yqh (fun u D t => ⟨rfl, ?_⟩))
 intro cn P
 rw [t 8 (by decide)] at P; cases C.symm.trans P
 exact D
 intro co vals w209 bh aD hA210
 have ak : co ∈ [0, 1] := bh
 simp only [List.mem_cons, List.not_mem_nil, or_false] at ak
 rcases ak with rfl | rfl
 have bi : Sep _ _ _ _ := aD
 refine obl rfl ((zI vT ?_))
 intro w216 p bj
 exact fun u D t => ⟨(Exists.intro p (And.intro D (bi.new bj))), trivial⟩
 obtain ⟨e, C, bk⟩ := aD
 refine obl rfl ((zI vT ?_))
 intro w221 p bl
 exact fun u D t => ⟨(Exists.intro e (Exists.intro p (And.intro ((t 8 dc).trans C) (And.intro D (bk.new bl))))), trivial⟩
 intro cp vals w224 bm bn bp
 have al : cp ∈ [3] := bm
 simp only [List.mem_cons, List.not_mem_nil, or_false] at al
 subst al
 obtain ⟨e, p, C, z, aE⟩ := bn
 refine obl rfl ?_
 have cq : vals 9 = (.agg #[Ix e 0, (Iz)] : Value) := bp 9 dc e C
 refine (zA (v := .agg #[Ix e 0, (Iz)]) (c' := #[Ix e 0, (Iz)]) kT z cq (aE.b0) (yf ⟨rfl, rfl, trivial⟩) yqc rfl ?_)
 intro w230 bq
 exact fun u D t => ⟨(Exists.intro e (Exists.intro p (And.intro ((t 8 dc).trans C) (And.intro ((t 10 dc).trans z) (aE.pt0 bq))))), trivial⟩
 intro vals aM br hA235
 obtain ⟨e, p, C, z, bs⟩ := br
 let cB := ViewO e d (zu d evs) (zu d evs)
 refine zW (kv := [(0, Ix b 0), (1, .agg #[Ix pv 0, vq]), (3, Ix J 0), (4, Ix I 0), (5, Ix p 0)]) ⟨rfl, rfl, rfl, rfl, (by exact z), trivial⟩ (fun ρw233 => (zb (za (za ?_))))
 have bt := ci _ _ bs
 have bu := cf _ _ bt
 have bv := cc _ _ bu
 obtain ⟨g, Q, bw⟩ := ZipW.open (bv.mv8)
 have R : Sep G W ((RowE (α := PtC) own 93 vq g) :: (Star (Zip xo g LL)) :: (RowE (α := Typ) own 84 vt d.types) :: (RowE (α := Prj) own 46 vp d.projs) :: (RowE (α := Ev) own 64 ve evs) :: (Blk p #[Ix e 0, (Iz)] 78) :: cB :: cA :: cC :: cz :: Rs) aM := bw
 have Z := R.r0
 have hr244s : _ * 8 ≤ _ := Z.2
 refine R0 fun _ => st (ZA rfl (st (lD vq oT rfl (zd (R.b8) rfl) (st (zG (n := g.length) sT rfl Z.1 (st (mV (Iv 0) (zb (zp ?_)))))))))
 have bx : Sep G W ((zU (Iz) ([] : List PR)) :: (RowE (α := PtC) own 93 vq g) :: (Star (Zip xo g LL)) :: (RowE (α := Typ) own 84 vt d.types) :: (RowE (α := Prj) own 46 vp d.projs) :: (RowE (α := Ev) own 64 ve evs) :: (Blk p #[Ix e 0, (Iz)] 78) :: cB :: cA :: cC :: cz :: Rs) aM := ZipW.nil xo 93 R
 refine zZ (fun mq σ E => ∃ (k : Nat) (vo : Value) (ρ : Env), mq = LL.length - k ∧ σ = ya ρ [(0, Ix b 0), (3, Ix J 0), (4, Ix I 0), (5, Ix p 0), (19, vq), (20, Iw g.length), (21, Iw k)] ∧ (k ≤ LL.length) ∧ Sep G W ((zU vo (LL.take k)) :: (RowE (α := PtC) own 93 vq g) :: (Star (Zip xo g LL)) :: (RowE (α := Typ) own 84 vt d.types) :: (RowE (α := Prj) own 46 vp d.projs) :: (RowE (α := Ev) own 64 ve evs) :: (Blk p #[Ix e 0, vo] 78) :: (ViewO e d (zu d evs) (zu d evs)) :: (Blk I #[.pointer none, (Iz)] 78) :: (Blk J #[Ix pv 0, vq] 78) :: (Blk b #[vt, vp, Iw every, ve, Ix yt 0, vr, vpts] 81) :: Rs) E) ⟨0, (Iz), _, rfl, sSf, Nat.zero_le _, bx⟩ ?_
 rintro m247 σ248 aw ⟨k, vo, ρl1, rfl, rfl, hkk, M⟩
 let cD := Ix ((g.getD k default).b) 0
 refine za (R0 fun _ => st (zJ (k := .i64) (a := ((k : Nat) : Int)) (b := ((g.length : Nat) : Int)) rfl rfl (zb (za ?_))))
 cases N : decide (((k : Nat) : Int) < ((g.length : Nat) : Int))
 have N := fD N
 have hkn : k = LL.length := by omega
 rw [hkn, List.take_of_length_le (Nat.le_refl LL.length)] at M
 have O : Sep G W ((zU vq LL) :: (zU vo LL) :: (RowE (α := Typ) own 84 vt d.types) :: (RowE (α := Prj) own 46 vp d.projs) :: (RowE (α := Ev) own 64 ve evs) :: (Blk p #[Ix e 0, vo] 78) :: cB :: cA :: cC :: cz :: Rs) aw := ZipW.mk Q (M.s11_bcadefghijk)
 refine zf rfl (zY (zR (za (R0 fun _ => st (zg (k := 2) wT kT rfl rfl (CellsAt.all (O.b5)) (stn (zA (v := .agg #[Ix e 0, vo]) (c' := #[Ix e 0, vo]) kT rfl rfl (O.b7) (yf ⟨rfl, (O.zipSl (A := xo) (i := 1) rfl).one, trivial⟩) yqc rfl ?_)))))))
 intro w253 bz
 have aF := O.pt7 bz
 refine zb (zm (VO (b := I) Tryz.results62 wT kT rfl rfl (CellsAt.all (aF.b7)) ?_))
 refine ⟨e, vo, rfl, (aF.s10_jcdeagb)⟩
 have N := tD N
 refine zi rfl (zn (za (zp (za (R0 fun _ => ?_)))))
 have bA : k < g.length := bo
 refine st (ze (k := 1) (i := k) sT kR rfl Z.1 rfl bA ?_)
 have bB : k < g.length := bo
 obtain ⟨_, _, S, rfl, hpke258⟩ := M.rowAtD (i := 1) (j := k) rfl bB
 have S : CellsAt _ _ _ [Ix ((g.getD k default).b) 0] := S
 refine st (lD cD kY rfl (S.get (j := 0) rfl) (st (aS cD (zb ?_))))
 obtain ⟨x, am, bC⟩ := ZipW.open M
 have an : Sep G W ((RowE (α := PtC) own 93 vo x) :: (Star (Zip xo x (LL.take k))) :: (RowE (α := PtC) own 93 vq g) :: (Star (Zip xo g LL)) :: (RowE (α := Typ) own 84 vt d.types) :: (RowE (α := Prj) own 46 vp d.projs) :: (RowE (α := Ev) own 64 ve evs) :: (Blk p #[Ix e 0, vo] 78) :: cB :: cA :: cC :: cz :: Rs) aw := bC
 have bD := an.r0
 have hr263s : _ * 8 ≤ _ := bD.2
 have hsn9 : x.length = k := by rw [am, List.length_take]; omega
 have bE : Sep G W ((ProjO ((g.getD k default).b) ((LL.getD k default).1) ((LL.getD k default).2)) :: (Star ((Zip xo g LL).set k Emp)) :: (RowE (α := PtC) own 93 vo x) :: (Star (Zip xo x (LL.take k))) :: (RowE (α := PtC) own 93 vq g) :: (RowE (α := Typ) own 84 vt d.types) :: (RowE (α := Prj) own 46 vp d.projs) :: (RowE (α := Ev) own 64 ve evs) :: (Blk p #[Ix e 0, vo] 78) :: (ViewO e d (zu d evs) (zu d evs)) :: (Blk I #[.pointer none, (Iz)] 78) :: (Blk J #[Ix pv 0, vq] 78) :: (Blk b #[vt, vp, Iw every, ve, Ix yt 0, vr, vpts] 81) :: Rs) aw := ZipW.take Q om (an.mv3)
 refine WD4 ((fun TT F ao aN ap aq ar au av aG => WF [fun vals E => Sep G W (F :: ao :: aN :: ap :: aq :: ar :: au :: av :: aG :: TT) E, fun vals E => ∃ (m : Nat), (vals 3 = (Ix m 0 : Value)) ∧ Sep G W (F :: (ProjO m ((LL.getD k default).1) ((LL.getD k default).2)) :: ao :: aN :: ap :: aq :: ar :: au :: av :: aG :: TT) E, fun vals E => ∃ (m : Nat) (y : Nat), (vals 3 = (Ix m 0 : Value)) ∧ (vals 4 = ((Iy y 1 1) : Value)) ∧ Sep G W ((Blk y #[Ix m 0] 93) :: F :: (ProjO m ((LL.getD k default).1) ((LL.getD k default).2)) :: ao :: aN :: ap :: aq :: ar :: au :: av :: aG :: TT) E, fun vals E => ∃ (m : Nat) (y : Nat) (q : Value), (vals 3 = (Ix m 0 : Value)) ∧ (vals 4 = ((Iy y 1 1) : Value)) ∧ (vals 5 = (q : Value)) ∧ Sep G W ((RowE (α := PtC) own 93 q (x ++ [(⟨m⟩ : PtC)])) :: F :: (ProjO m ((LL.getD k default).1) ((LL.getD k default).2)) :: ao :: ap :: aq :: ar :: au :: av :: aG :: TT) E, fun vals E => ∃ (m : Nat) (y : Nat) (q : Value), (vals 3 = (Ix m 0 : Value)) ∧ (vals 4 = ((Iy y 1 1) : Value)) ∧ (vals 5 = (q : Value)) ∧ Sep G W ((RowE (α := PtC) own 93 q (x ++ [(⟨m⟩ : PtC)])) :: F :: (ProjO m ((LL.getD k default).1) ((LL.getD k default).2)) :: ao :: ap :: aq :: ar :: au :: av :: (Blk p #[Ix e 0, q] 78) :: TT) E]) (cB :: cA :: cC :: cz :: Rs) (ProjO ((g.getD k default).b) ((LL.getD k default).1) ((LL.getD k default).2)) (Star ((Zip xo g LL).set k Emp)) (RowE (α := PtC) own 93 vo x) (Star (Zip xo x (LL.take k))) (RowE (α := PtC) own 93 vq g) (RowE (α := Typ) own 84 vt d.types) (RowE (α := Prj) own 46 vp d.projs) (RowE (α := Ev) own 64 ve evs) (Blk p #[Ix e 0, vo] 78)) (AF [Vl 0 (Ix p 1), Vl 1 (vo), Vl 2 cD, fun _ => True, fun _ => True, fun _ => True, Vl 6 (Ix p 1), fun _ => True]) [[], [0], [], [2], [2, 3], (rg 5), (rg 6), (rg 7)] [3, 4, 5, 7] [(0, 2), (0, 2), (0, 0), (0, 0), (1, 1), (2, 2), (3, 3), (3, 3)] bE ⟨fun _ _ _ _ _ _ _ => obl rfl (ZA rfl dR), ?_, fun _ _ _ _ _ _ _ => obl rfl (mV cD dR), ?_, ?_, ?_, fun _ _ _ _ _ _ _ => obl rfl (ZA rfl dR), ?_, trivial⟩ ?_
 refine fun T _ _ cr ct aa ab => ?_
 have hkk : T = 0 ∨ T = 1 ∨ T = 2 := by have h1 : 0 ≤ T := cr; have h2 : T ≤ 2 := ct; omega
 rcases hkk with rfl | rfl | rfl
 have bF : Sep _ _ _ _ := aa
 exact obl rfl (lD vo oT (ab 0 dc) (zd (bF.b8) rfl) dR)
 obtain ⟨m, B, bG⟩ := aa
 exact obl rfl (lD vo oT (ab 0 dc) (zd (bG.b9) rfl) dR)
 obtain ⟨m, y, B, H, bH⟩ := aa
 exact obl rfl (lD vo oT (ab 0 dc) (zd (bH.b10) rfl) dR)
 refine ob1 0 fun vals _ (bI : Sep _ _ _ _) bJ => (obl rfl ((zL (f := 83) (vals := [Ix ((g.getD k default).b) 0]) (cap := []) rfl (yN ⟨(bJ 2 dc), trivial⟩) Tryz.call83 (JG  bI) ?_)))
 rintro _ w295 ⟨m, rfl, bK⟩
 exact fun u D t => ⟨(Exists.intro m (And.intro D bK)), trivial⟩
 refine ob1 1 fun _ _ bL _ => ?_
 obtain ⟨m, B, bM⟩ := bL
 refine obl rfl ((zD (k := 1) (parts' := [(0, Ix m 0)]) (c := #[Ix m 0]) sT kR lY dc (xH ⟨rfl, B, trivial⟩) kr ?_))
 intro w307 y bN
 exact fun u D t => ⟨(Exists.intro m (Exists.intro y (And.intro ((t 3 dc).trans B) (And.intro D (bM.new bN))))), trivial⟩
 refine ob1 2 fun _ _ bO bP => ?_
 obtain ⟨m, y, B, H, aH⟩ := bO
 refine obl rfl ?_
 have aO := aH.b0
 refine (yv (src := own) (bytes := 8) (x1 := (⟨m⟩ : PtC)) ((aH.s15_ebcdfghijklmno).emp1) el76 (bP 1 (by decide)) H aO (fun _ _ _ => (show _ from ⟨rfl, ⟨⟩⟩)) yqb rfl ?_)
 intro q w318 aI
 have bQ := aI.r0
 have hr324s : _ * 8 ≤ _ := bQ.2
 exact fun u D t => ⟨(Exists.intro m (Exists.intro y (Exists.intro q (And.intro ((t 3 dc).trans B) (And.intro ((t 4 dc).trans H) (And.intro D aI)))))), trivial⟩
 refine ob1 3 fun _ _ bR bS => ?_
 obtain ⟨m, y, q, B, H, ac, ad⟩ := bR
 refine obl rfl ?_
 have aJ := ad.r0
 have hr342s : _ * 8 ≤ _ := aJ.2
 refine (yq (v := q) (c := [Ix e 0, vo]) (c' := [Ix e 0, q]) mY (bS 6 dc) ac (ad.b9) aJ.1.one rfl rfl ?_)
 intro w340 bT
 exact fun u D t => ⟨(Exists.intro m (Exists.intro y (Exists.intro q (And.intro ((t 3 dc).trans B) (And.intro ((t 4 dc).trans H) (And.intro ((t 5 dc).trans ac) (ad.pt9 bT))))))), trivial⟩
 intro vals aP bU hA376
 obtain ⟨m, y, q, B, H, ac, bV⟩ := bU
 refine zW (kv := [(0, Ix b 0), (3, Ix J 0), (4, Ix I 0), (5, Ix p 0), (19, vq), (20, Iw g.length), (21, Iw k), (22, .bool true), (23, Ix (sb vq) (so vq + k * 1)), (24, Ix ((g.getD k default).b) 0), (7, Ix ((g.getD k default).b) 0)]) sEv (fun ρw374 => (zb ?_))
 have bW : Sep G W ((Star (Zip xo g LL)) :: (RowE (α := PtC) own 93 q (x ++ [(⟨m⟩ : PtC)])) :: (ProjO m ((LL.getD k default).1) ((LL.getD k default).2)) :: (Star (Zip xo x (LL.take k))) :: (RowE (α := PtC) own 93 vq g) :: (RowE (α := Typ) own 84 vt d.types) :: (RowE (α := Prj) own 46 vp d.projs) :: (RowE (α := Ev) own 64 ve evs) :: (Blk p #[Ix e 0, q] 78) :: (ViewO e d (zu d evs) (zu d evs)) :: (Blk I #[.pointer none, (Iz)] 78) :: (Blk J #[Ix pv 0, vq] 78) :: (Blk b #[vt, vp, Iw every, ve, Ix yt 0, vr, vpts] 81) :: Rs) aP := ZipW.back (i := k) Q om (bV.s14_bdacefghijklmn)
 have bX : Sep G W ((zU q ((LL.take k) ++ [(LL.getD k default)])) :: (Star (Zip xo g LL)) :: (RowE (α := PtC) own 93 vq g) :: (RowE (α := Typ) own 84 vt d.types) :: (RowE (α := Prj) own 46 vp d.projs) :: (RowE (α := Ev) own 64 ve evs) :: (Blk p #[Ix e 0, q] 78) :: cB :: cA :: cC :: cz :: Rs) aP := ZipW.snoc (s := (⟨m⟩ : PtC)) (c := (LL.getD k default)) am (bW.s13_bdcaefghijklm)
 refine R0 fun _ => ?_
 have bY : InR ((k + 1 : Nat) : Int) := bo
 refine st (zO (r := ((k + 1 : Nat) : Int)) (k := .i64) (a := ((k : Nat) : Int)) (b := 1) rfl rfl (by rw [show (((k : Nat) : Int) + 1 : Int) = ((k + 1 : Nat) : Int) from bo]; exact zy bY) (st (mV (Iw (k + 1)) (zb ?_))))
 have aK := bX.s11_acbdefghijk
 have bZ : LL.take (k + 1) = ((LL.take k) ++ [(LL.getD k default)]) := (List.take_getD om)
 rw [← bZ] at aK
 exact ⟨_, by omega, k + 1, q, _, rfl, sSf, by omega, aK⟩

theorem el79 : Elem Tryz.prog 79 78 2 32 := ⟨qT, _, _, rfl, rfl, rfl, rfl, rfl⟩
theorem QY {G : Nat → Prop} {W w : World} {Rs : List HP} {b every yt : Nat} {d : Dcl} {evs : List Ev} {vt vp ve vr vpts : Value} {LL : List PR} {PL : List (List PR)} (hKN : RdS W G (.slice (some ⟨0, 0, none⟩) 6 6) kindsL) (hS0 : Sep G W ((Blk b #[vt, vp, .int .i64 ((every : Nat) : Int), ve, .pointer (some ⟨yt, 0, none⟩), vr, vpts] 81) :: (RowE (α := Typ) own 84 vt d.types) :: (RowE (α := Prj) own 46 vp d.projs) :: (RowE (α := Ev) own 64 ve evs) :: (zU vr LL) :: (yG vpts PL) :: Rs) w) (hd : DclOk d) (hfew : evs.length ≤ 1000000) (hpe : PL.length * every ≤ 9223372036854775807) (hev1 : 1 ≤ every) : Ret Tryz.prog 40 [.pointer (some ⟨b, 0, none⟩)] w (fun r w' => ∃ (vpts2 : Value), r = (.tuple #[] : Value) ∧ Sep G W ((Blk b #[vt, vp, .int .i64 ((every : Nat) : Int), ve, .pointer (some ⟨yt, 0, none⟩), vr, vpts2] 81) :: (RowE (α := Typ) own 84 vt d.types) :: (RowE (α := Prj) own 46 vp d.projs) :: (RowE (α := Ev) own 64 ve evs) :: (zU vr LL) :: (yG vpts2 (ZD (evs).length every PL LL)) :: Rs) w') := by
 let aS := Blk b #[vt, vp, Iw every, ve, Ix yt 0, vr, vpts] 81
 have hKNs : _ * 8 ≤ _ := hKN.small
 refine zk (args := [Ix b 0]) Tryz.func40 rfl rfl ?_
 have bd := hS0.r1
 have hr1s : _ * 24 ≤ _ := bd.2
 have be := hS0.r2
 have hr2s : _ * 40 ≤ _ := be.2
 have aW := hS0.r3
 have hr3s : _ * 96 ≤ _ := aW.2
 refine za ?_
 obtain ⟨h, x, bf⟩ := ZipW.open (hS0.mv5)
 have Z : Sep G W ((RowE (α := PtV) own 78 vpts h) :: (Star (Zip PtA h PL)) :: aS :: (RowE (α := Typ) own 84 vt d.types) :: (RowE (α := Prj) own 46 vp d.projs) :: (RowE (α := Ev) own 64 ve evs) :: (zU vr LL) :: Rs) w := bf
 have aX := Z.r0
 have hr8s : _ * 32 ≤ _ := aX.2
 have hpe9 : h.length * every ≤ 9223372036854775807 := by rw [x]; exact hpe
 refine WD4 (WF [fun vals y => Sep G W ((RowE (α := PtV) own 78 vpts h) :: (Star (Zip PtA h PL)) :: aS :: (RowE (α := Typ) own 84 vt d.types) :: (RowE (α := Prj) own 46 vp d.projs) :: (RowE (α := Ev) own 64 ve evs) :: (zU vr LL) :: Rs) y]) (AF [Vl 0 (Ix b 0), Vl 1 (Ix b 0), Vl 2 (Ix b 3), Vl 3 (ve), Vl 4 (Iw evs.length), Vl 5 (Ix b 0), Vl 6 (Ix b 0), Vl 7 (Ix b 6), Vl 8 (vpts), Vl 9 (Iw h.length), Vl 10 (Ix b 0), Vl 11 (Ix b 0), Vl 12 (Ix b 2), Vl 13 (Iw every), Vl 14 (Iw (h.length * every)), Vl 15 (.bool (decide (((evs.length : Nat) : Int) = ((h.length * every : Nat) : Int))))]) [[], [0], [0, 1], [0, 1, 2], (rg 4), [], [5], [5, 6], [5, 6, 7], [5, 6, 7, 8], [], [10], [10, 11], [10, 11, 12], [5, 6, 7, 8, 9, 10, 11, 12, 13], (rg 15)] [] [(0, 0), (0, 0), (0, 0), (0, 0), (0, 0), (0, 0), (0, 0), (0, 0), (0, 0), (0, 0), (0, 0), (0, 0), (0, 0), (0, 0), (0, 0), (0, 0)] Z ⟨fun _ _ _ _ _ _ _ => obl rfl (mV (Ix b 0) dR), fun _ _ _ _ _ _ ac => obl rfl (zl (b := b) (o := 0) (ac 0 dc) dR), fun _ _ _ _ _ _ ad => obl rfl (xW (ad 1 dc) dR), ob1 0 fun _ _ (ae : Sep _ _ _ _) af => obl rfl (lD ve pT (af 2 dc) (zd (ae.b2) rfl) dR), ob1 0 fun _ _ _ ag => obl rfl (zG (n := evs.length) rR (ag 3 dc) aW.1 dR), fun _ _ _ _ _ _ _ => obl rfl (mV (Ix b 0) dR), fun _ _ _ _ _ _ ah => obl rfl (zl (b := b) (o := 0) (ah 5 dc) dR), fun _ _ _ _ _ _ ai => obl rfl (Yh (ai 6 dc) dR), ob1 0 fun _ _ (aj : Sep _ _ _ _) ak => obl rfl (lD vpts rT (ak 7 dc) (zd (aj.b2) rfl) dR), ob1 0 fun _ _ _ al => obl rfl (zG (n := h.length) qT (al 8 dc) aX.1 dR), fun _ _ _ _ _ _ _ => obl rfl (mV (Ix b 0) dR), fun _ _ _ _ _ _ am => obl rfl (zl (b := b) (o := 0) (am 10 dc) dR), fun _ _ _ _ _ _ an => obl rfl (Ud (an 11 dc) dR), ob1 0 fun _ _ (ao : Sep _ _ _ _) ap => obl rfl (lD (Iw every) lT (ap 12 dc) (zd (ao.b2) rfl) dR), ?_, ob1 0 fun _ _ _ O => obl rfl (zX (k := .i64) (a := ((evs.length : Nat) : Int)) (b := ((h.length * every : Nat) : Int)) (O 4 dc) (O 14 dc) dR), trivial⟩ ?_
 refine ob1 0 fun _ _ _ P => (obl rfl ?_)
 have aq : InR ((h.length * every : Nat) : Int) := bo
 exact KD (r := ((h.length * every : Nat) : Int)) (k := .i64) (a := ((h.length : Nat) : Int)) (b := ((every : Nat) : Int)) (P 9 (by decide)) (P 13 (by decide)) (by rw [show (((h.length : Nat) : Int) * ((every : Nat) : Int) : Int) = ((h.length * every : Nat) : Int) from bo]; exact zy aq) dR
 intro vals aY ar au
 have Q : Sep _ _ _ _ := ar
 have aZ := au 15 dc
 refine zW (kv := [(0, Ix b 0), (17, .bool (decide (((evs.length : Nat) : Int) = ((h.length * every : Nat) : Int))))]) ⟨rfl, (by exact aZ), trivial⟩ (fun ρw247 => (zb ?_))
 cases q : decide (((evs.length : Nat) : Int) = ((h.length * every : Nat) : Int))
 have hc252r := q
 have q := fD q
 refine zf rfl (zn (YQ nY ?_))
 have R : Sep G W ((yG vpts PL) :: aS :: (RowE (α := Typ) own 84 vt d.types) :: (RowE (α := Prj) own 46 vp d.projs) :: (RowE (α := Ev) own 64 ve evs) :: (zU vr LL) :: Rs) aY := ZipW.mk x Q
 have N : PL = (ZD evs.length every PL LL) := by unfold ZD; rw [if_neg (by rw [← x]; omega)]
 rw [show yG vpts PL = yG vpts (ZD evs.length every PL LL) from congrArg _ N] at R
 refine ⟨vpts, rfl, (R.s6_bcdefa)⟩
 have q := tD q
 have hpl9 : h.length ≤ 1000000 := by have h9 := Nat.le_mul_of_pos_right h.length (show 0 < every by omega); omega
 refine zi rfl ?_
 refine WD4 ((fun aa I S J K L M => WF [fun vals y => Sep G W (aa :: I :: S :: J :: K :: L :: M :: Rs) y, fun vals y => ∃ (e : Nat) (g : Value), (vals 10 = (.agg #[Ix e 0, g] : Value)) ∧ Sep G W (S :: J :: K :: L :: M :: (ViewO e d (zu d evs) (zu d evs)) :: (zU g LL) :: aa :: I :: Rs) y, fun vals y => ∃ (e : Nat) (g : Value) (l : Nat), (vals 10 = (.agg #[Ix e 0, g] : Value)) ∧ (vals 11 = ((Iy l 1 1) : Value)) ∧ Sep G W ((Blk l #[Ix e 0, g] 78) :: S :: J :: K :: L :: M :: (ViewO e d (zu d evs) (zu d evs)) :: (zU g LL) :: aa :: I :: Rs) y, fun vals y => ∃ (e : Nat) (g : Value) (l : Nat) (j : Value), (vals 10 = (.agg #[Ix e 0, g] : Value)) ∧ (vals 11 = ((Iy l 1 1) : Value)) ∧ (vals 12 = (j : Value)) ∧ Sep G W ((RowE (α := PtV) own 78 j (h ++ [(⟨e, g⟩ : PtV)])) :: S :: J :: K :: L :: M :: (ViewO e d (zu d evs) (zu d evs)) :: (zU g LL) :: I :: Rs) y, fun vals y => ∃ (e : Nat) (g : Value) (l : Nat) (j : Value), (vals 10 = (.agg #[Ix e 0, g] : Value)) ∧ (vals 11 = ((Iy l 1 1) : Value)) ∧ (vals 12 = (j : Value)) ∧ Sep G W ((RowE (α := PtV) own 78 j (h ++ [(⟨e, g⟩ : PtV)])) :: (Blk b #[vt, vp, Iw every, ve, Ix yt 0, vr, j] 81) :: J :: K :: L :: M :: (ViewO e d (zu d evs) (zu d evs)) :: (zU g LL) :: I :: Rs) y]) (RowE (α := PtV) own 78 vpts h) (Star (Zip PtA h PL)) aS (RowE (α := Typ) own 84 vt d.types) (RowE (α := Prj) own 46 vp d.projs) (RowE (α := Ev) own 64 ve evs) (zU vr LL)) (AF [Vl 0 (Ix b 0), Vl 1 (Ix b 0), Vl 2 (Ix b 0), Vl 3 (Ix b 6), Vl 4 (vpts), Vl 5 (Ix b 0), Vl 6 (Ix b 0), Vl 7 (Ix b 0), Vl 8 (Ix b 4), Vl 9 (.agg #[Ix yt 0, vr]), fun _ => True, fun _ => True, fun _ => True, Vl 13 (Ix b 0), Vl 14 (Ix b 6), fun _ => True]) [[], [], [1], [1, 2], [1, 2, 3], [], [], [6], [6, 7], [6, 7, 8], [5, 6, 7, 8, 9], [5, 6, 7, 8, 9, 10], [1, 2, 3, 4, 5, 6, 7, 8, 9, 10, 11], (rg 13), (rg 14), (rg 15)] [10, 11, 12, 15] [(0, 3), (0, 2), (0, 2), (0, 2), (0, 2), (0, 0), (0, 0), (0, 0), (0, 0), (0, 0), (0, 0), (1, 1), (2, 2), (3, 3), (3, 3), (3, 3)] Q ⟨fun _ _ _ _ _ _ _ => obl rfl (mV (Ix b 0) dR), fun _ _ _ _ _ _ _ => obl rfl (mV (Ix b 0) dR), fun _ _ _ _ _ _ av => obl rfl (zl (b := b) (o := 0) (av 1 dc) dR), fun _ _ _ _ _ _ aw => obl rfl (Yh (aw 2 dc) dR), ?_, fun _ _ _ _ _ _ _ => obl rfl (mV (Ix b 0) dR), fun _ _ _ _ _ _ _ => obl rfl (mV (Ix b 0) dR), fun _ _ _ _ _ _ ax => obl rfl (zl (b := b) (o := 0) (ax 6 dc) dR), fun _ _ _ _ _ _ ay => obl rfl (xM (ay 7 dc) dR), ob1 0 fun _ _ (az : Sep _ _ _ _) aA => obl rfl (zg (k := 2) (cs := [Ix yt 0, vr]) wT kT rfl (aA 8 dc) (CellsAt.sub (CellsAt.all (az.b2)) 4 (cs2 := [Ix yt 0, vr]) rfl) dR), ?_, ?_, ?_, fun _ _ _ _ _ _ aB => obl rfl (zl (b := b) (o := 0) (aB 0 dc) dR), fun _ _ _ _ _ _ aC => obl rfl (Yh (aC 13 dc) dR), ?_, trivial⟩ ?_
 refine fun z _ _ ba bb B C => ?_
 have hkk : z = 0 ∨ z = 1 ∨ z = 2 := by have h1 : 0 ≤ z := ba; have h2 : z ≤ 2 := bb; omega
 rcases hkk with rfl | rfl | rfl
 have aD : Sep _ _ _ _ := B
 exact obl rfl (lD vpts rT (C 3 dc) (zd (aD.b2) rfl) dR)
 obtain ⟨e, g, m, aE⟩ := B
 exact obl rfl (lD vpts rT (C 3 dc) (zd (aE.b0) rfl) dR)
 obtain ⟨e, g, l, m, p, aF⟩ := B
 exact obl rfl (lD vpts rT (C 3 dc) (zd (aF.b1) rfl) dR)
 refine ob1 0 fun vals _ (aG : Sep _ _ _ _) T => (obl rfl ((zL (f := 62) (vals := [Ix b 0, .agg #[Ix yt 0, vr]]) (cap := []) rfl (yN ⟨(T 5 dc), (T 9 dc), trivial⟩) oY (KL  hKN (aG.s7_cdefgab) (hd) (hfew)) ?_)))
 rintro _ w335 ⟨e, g, rfl, u⟩
 have aH := u.r1
 have hr337s : _ * 24 ≤ _ := aH.2
 have aI := u.r2
 have hr338s : _ * 40 ≤ _ := aI.2
 have aJ := u.r3
 have hr339s : _ * 96 ≤ _ := aJ.2
 exact fun D Y t => ⟨(Exists.intro e (Exists.intro g (And.intro Y u))), trivial⟩
 refine ob1 1 fun _ _ aK _ => ?_
 obtain ⟨e, g, m, aL⟩ := aK
 refine obl rfl ((zD (k := 2) (parts' := [(0, .agg #[Ix e 0, g])]) (c := #[Ix e 0, g]) qT kT vT dc (xH ⟨rfl, m, trivial⟩) kr ?_))
 intro w350 l aM
 exact fun D Y t => ⟨(Exists.intro e (Exists.intro g (Exists.intro l (And.intro ((t 10 dc).trans m) (And.intro Y (aL.new aM)))))), trivial⟩
 refine ob1 2 fun _ _ aN aO => ?_
 obtain ⟨e, g, l, m, p, E⟩ := aN
 refine obl rfl ?_
 have ab := E.b0
 refine (yv (src := own) (bytes := 32) (x1 := (⟨e, g⟩ : PtV)) ((E.s10_ibcdefghj).emp1) el79 (aO 4 (by decide)) p ab (fun _ _ _ => (show _ from ⟨rfl, ⟨(E.zipSl (A := xo) (i := 7) rfl).one⟩⟩)) yqb rfl ?_)
 intro j w361 U
 have aP := U.r0
 have hr367s : _ * 32 ≤ _ := aP.2
 exact fun D Y t => ⟨(Exists.intro e (Exists.intro g (Exists.intro l (Exists.intro j (And.intro ((t 10 dc).trans m) (And.intro ((t 11 dc).trans p) (And.intro Y U))))))), trivial⟩
 refine ob1 3 fun _ _ aQ aR => ?_
 obtain ⟨e, g, l, j, m, p, F, H⟩ := aQ
 refine obl rfl ?_
 have V := H.r0
 have hr393s : _ * 32 ≤ _ := V.2
 refine (yq (v := j) (c := [vt, vp, Iw every, ve, Ix yt 0, vr, vpts]) (c' := [vt, vp, Iw every, ve, Ix yt 0, vr, j]) pY (aR 14 dc) F (H.b1) V.1.one rfl rfl ?_)
 intro w391 aT
 exact fun D Y t => ⟨(Exists.intro e (Exists.intro g (Exists.intro l (Exists.intro j (And.intro ((t 10 dc).trans m) (And.intro ((t 11 dc).trans p) (And.intro ((t 12 dc).trans F) (H.pt1 aT)))))))), trivial⟩
 intro vals bc aU hA483
 obtain ⟨e, g, l, j, m, p, F, aV⟩ := aU
 refine zW (kv := [(0, Ix b 0), (17, .bool true)]) sEv (fun ρw481 => (zb (YQ nY ?_)))
 have X : Sep G W ((yG j (PL ++ [LL])) :: (Blk b #[vt, vp, Iw every, ve, Ix yt 0, vr, j] 81) :: (RowE (α := Typ) own 84 vt d.types) :: (RowE (α := Prj) own 46 vp d.projs) :: (RowE (α := Ev) own 64 ve evs) :: (zU vr LL) :: (ViewO e d (zu d evs) (zu d evs)) :: Rs) bc := ZipW.snoc (s := (⟨e, g⟩ : PtV)) (c := LL) x (aV.s9_aihbcdefg)
 have N : (PL ++ [LL]) = (ZD evs.length every PL LL) := by unfold ZD; rw [if_pos (by rw [← x]; omega)]
 rw [N] at X
 refine ⟨j, rfl, (X.s7_bcdefa)⟩

theorem zav {G : Nat → Prop} {W w : World} {Rs : List HP} {b : Nat} {d : Dcl} {every : Nat} {evs : List Ev} {e : Ev} {de0 : Value} (hde0 : RdS W G de0 e.deps) (oe : e.Ok) (hKN : RdS W G (.slice (some ⟨0, 0, none⟩) 6 6) kindsL) (hS0 : Sep G W ((BaseO b d every evs) :: Rs) w) (hd : DclOk d) (hp : YD d) (hfew : evs.length ≤ 100000) : Ret Tryz.prog 42 [.pointer (some ⟨b, 0, none⟩), .agg (e.cells de0).toArray] w (fun r w' => r = (.tuple #[] : Value) ∧ Sep G W ((BaseO b d every (evs ++ [e])) :: Rs) w') := by
 have hde0s : _ * 8 ≤ _ := hde0.small
 have hKNs : _ * 8 ≤ _ := hKN.small
 refine zk (args := [Ix b 0, .agg (e.cells de0).toArray]) Tryz.func42 rfl rfl ?_
 obtain ⟨ar, E, y, C, m, B, q, eS⟩ := BaseO.open hS0
 let fa := ViewO m d (zu d (evs ++ [e])) (zu d (evs ++ [e]))
 let eZ := Blk b #[E, y, Iw every, C, Ix m 0, B, q] 81
 have au : Sep G W (eZ :: (RowE (α := Typ) own 84 E d.types) :: (RowE (α := Prj) own 46 y d.projs) :: (RowE (α := Ev) own 64 C evs) :: (ViewO m d (zu d evs) (zu d evs)) :: (zU B (prs d evs)) :: (yG q (yo d every evs)) :: Rs) w := eS
 have eT := au.r1
 have hr9s : _ * 24 ≤ _ := eT.2
 have ba := au.r2
 have hr10s : _ * 40 ≤ _ := ba.2
 have ek := au.r3
 have hr11s : _ * 96 ≤ _ := ek.2
 refine za (R0 fun _ => st (zS (v := .agg (e.cells de0).toArray) rfl ?_))
 intro w14 I el
 let fb := Blk I (e.cells de0).toArray 64
 refine zb (za ?_)
 refine WD6 ((fun TT M N V X Y ai aj => WF [fun vals H => Sep G W (M :: N :: V :: X :: Y :: ai :: TT) H, fun vals H => ∃ (u : Value), (vals 6 = (.agg ((yg d (zu d evs) e).cells u).toArray : Value)) ∧ Sep G W (aj :: (RowE (α := Int) own 3 u e.deps) :: M :: N :: V :: X :: Y :: TT) H, fun vals H => ∃ (s : Nat), (vals 7 = (Ix s 0 : Value)) ∧ Sep G W ((Blk s #[Iv 0, Iv 0, Iv 0, (Iz), Iv 0, Iv 0, Iv 0, Iv 0, Iv 0, Iv 0, .bool false, Iv 0, Iv 0] 66) :: M :: N :: V :: X :: Y :: ai :: TT) H, fun vals H => ∃ (u : Value) (s : Nat), (vals 6 = (.agg ((yg d (zu d evs) e).cells u).toArray : Value)) ∧ (vals 7 = (Ix s 0 : Value)) ∧ Sep G W ((Blk s #[Iv 0, Iv 0, Iv 0, (Iz), Iv 0, Iv 0, Iv 0, Iv 0, Iv 0, Iv 0, .bool false, Iv 0, Iv 0] 66) :: aj :: (RowE (α := Int) own 3 u e.deps) :: M :: N :: V :: X :: Y :: TT) H, fun _ _ => True, fun _ _ => True, fun _ _ => True, fun vals H => ∃ (u : Value) (s : Nat), (vals 6 = (.agg ((yg d (zu d evs) e).cells u).toArray : Value)) ∧ (vals 7 = (Ix s 0 : Value)) ∧ Sep G W ((Blk s ((yg d (zu d evs) e).cells u).toArray 66) :: aj :: (RowE (α := Int) own 3 u e.deps) :: M :: N :: V :: X :: Y :: TT) H]) ((zU B (prs d evs)) :: (yG q (yo d every evs)) :: Rs) fb eZ (RowE (α := Typ) own 84 E d.types) (RowE (α := Prj) own 46 y d.projs) (RowE (α := Ev) own 64 C evs) (ViewO m d (zu d evs) (zu d evs)) (ViewO m d ((zu d evs) ++ [yg d (zu d evs) e]) ((zu d evs) ++ [yg d (zu d evs) e]))) (AF [Vl 0 (Ix b 0), Vl 1 (Ix b 0), Vl 2 (Ix b 4), Vl 3 (Ix b 4), Vl 4 (Ix m 0), Vl 5 (.agg (e.cells de0).toArray), fun _ => True, fun _ => True, fun _ => True]) [[], [0], [0, 1], [0, 1, 2], (rg 4), [], (rg 6), [], (rg 8)] [6, 7, 8] [[0, 2], [0, 2], [0, 2], [0, 2], [0, 2], [0, 2], [0, 2], [0, 1], [3]] (au.new el) ⟨fun _ _ _ _ _ _ => obl rfl (mV (Ix b 0) dR), fun _ _ _ _ _ em => obl rfl (zl (b := b) (o := 0) (em 0 dc) dR), fun _ _ _ _ _ bU => obl rfl (xM (bU 1 dc) dR), fun _ _ _ _ _ bV => obl rfl (WI (bV 2 dc) dR), ?_, ?_, ?_, ?_, ?_, trivial⟩ ?_
 intro en vals w116 bW bd be
 have aH : en ∈ [0, 2] := bW
 simp only [List.mem_cons, List.not_mem_nil, or_false] at aH
 rcases aH with rfl | rfl
 have bX : Sep _ _ _ _ := bd
 exact obl rfl (lD (Ix m 0) lR (be 3 dc) (zd (bX.b1) rfl) dR)
 obtain ⟨s, Z, bY⟩ := bd
 exact obl rfl (lD (Ix m 0) lR (be 3 dc) (zd (bY.b2) rfl) dR)
 intro eo vals w125 bZ bf hA126
 have aI : eo ∈ [0, 2] := bZ
 simp only [List.mem_cons, List.not_mem_nil, or_false] at aI
 rcases aI with rfl | rfl
 have ca : Sep _ _ _ _ := bf
 exact obl rfl (zg (k := 10) uT nT rfl rfl (CellsAt.all (ca.b0)) dR)
 obtain ⟨s, Z, cb⟩ := bf
 exact obl rfl (zg (k := 10) uT nT rfl rfl (CellsAt.all (cb.b1)) dR)
 intro er vals w132 cc bg ak
 have aJ : er ∈ [0, 2] := cc
 simp only [List.mem_cons, List.not_mem_nil, or_false] at aJ
 rcases aJ with rfl | rfl
 have cd : Sep _ _ _ _ := bg
 refine obl rfl ((zL (f := 63) (vals := [Ix m 0, .agg (e.cells de0).toArray]) (cap := []) rfl (yN ⟨(ak 4 (by decide)), (ak 5 (by decide)), trivial⟩) qY (Kt (e := e) hde0 oe hKN (cd.mv5) (hd) ((Inv.run hd _)) ((by rw [xA]; omega))) ?_))
 rintro _ w141 ⟨u, rfl, bh⟩
 have ce := bh.r1
 have hr143s : _ * 8 ≤ _ := ce.2
 exact fun A F z => ⟨(Exists.intro u (And.intro F bh)), trivial⟩
 obtain ⟨s, Z, cf⟩ := bg
 refine obl rfl ((zL (f := 63) (vals := [Ix m 0, .agg (e.cells de0).toArray]) (cap := []) rfl (yN ⟨(ak 4 (by decide)), (ak 5 (by decide)), trivial⟩) qY (Kt (e := e) hde0 oe hKN (cf.mv6) (hd) ((Inv.run hd _)) ((by rw [xA]; omega))) ?_))
 rintro _ w149 ⟨u, rfl, bi⟩
 have cg := bi.r1
 have hr151s : _ * 8 ≤ _ := cg.2
 exact fun A F z => ⟨(Exists.intro u (Exists.intro s (And.intro F (And.intro ((z 7 dc).trans Z) (bi.mv2))))), trivial⟩
 intro es vals w154 ch bj hA155
 have aK : es ∈ [0, 1] := ch
 simp only [List.mem_cons, List.not_mem_nil, or_false] at aK
 rcases aK with rfl | rfl
 have ci : Sep _ _ _ _ := bj
 refine obl rfl ((zI rY ?_))
 intro w161 s cj
 exact fun A F z => ⟨(Exists.intro s (And.intro F (ci.new cj))), trivial⟩
 obtain ⟨u, ao, ck⟩ := bj
 refine obl rfl ((zI rY ?_))
 intro w166 s cl
 exact fun A F z => ⟨(Exists.intro u (Exists.intro s (And.intro ((z 6 dc).trans ao) (And.intro F (ck.new cl))))), trivial⟩
 intro et vals w169 cm cn hA170
 have aL : et ∈ [3] := cm
 simp only [List.mem_cons, List.not_mem_nil, or_false] at aL
 subst aL
 obtain ⟨u, s, ao, Z, av⟩ := cn
 refine obl rfl ?_
 have bk := av.r2
 have hr176s : _ * 8 ≤ _ := bk.2
 refine (zA (v := .agg ((yg d (zu d evs) e).cells u).toArray) (c' := ((yg d (zu d evs) e).cells u).toArray) sY Z ao (av.b0) (yf ⟨rfl, rfl, rfl, bk.1.one, rfl, rfl, rfl, rfl, rfl, rfl, rfl, rfl, rfl, trivial⟩) yqc rfl ?_)
 intro w174 co
 exact fun A F z => ⟨(Exists.intro u (Exists.intro s (And.intro ((z 6 dc).trans ao) (And.intro ((z 7 dc).trans Z) (av.pt0 co))))), trivial⟩
 intro vals eu cp hA180
 obtain ⟨u, s, ao, Z, al⟩ := cp
 let eY := Blk s ((yg d (zu d evs) e).cells u).toArray 66
 refine zW (kv := [(0, Ix b 0), (1, .agg (e.cells de0).toArray), (3, Ix I 0), (4, Ix s 0)]) ⟨rfl, rfl, rfl, (by exact Z), trivial⟩ (fun ρw178 => (zb (za ?_)))
 have ew : ((yg d (zu d evs) e)).Ok := JO oe (al.evOk (i := 7) rfl)
 try simp +zetaDelta only at al
 rw [← xm] at al
 have cq : Sep G W (eY :: fa :: (RowE (α := Int) own 3 u e.deps) :: fb :: eZ :: (RowE (α := Typ) own 84 E d.types) :: (RowE (α := Prj) own 46 y d.projs) :: (RowE (α := Ev) own 64 C evs) :: (zU B (prs d evs)) :: (yG q (yo d every evs)) :: Rs) eu := al
 refine WD6 ((fun TT M N => WF [fun vals H => Sep G W (M :: N :: TT) H, fun vals H => ∃ (g : Value), (vals 9 = (.tuple #[.agg ((xI d (e.typ, e.agg) (zu d (evs ++ [e]))).cells g).toArray, .bool ((zr d (zu d (evs ++ [e])) (e.typ, e.agg)).isSome)] : Value)) ∧ Sep G W (N :: (RowE (α := Cel) own 107 g (stL d (e.typ, e.agg) (zu d (evs ++ [e])))) :: M :: TT) H, fun vals H => ∃ (p : Nat), (vals 13 = (Ix p 0 : Value)) ∧ Sep G W ((Blk p #[Iv 0, (Iz)] 57) :: M :: N :: TT) H, fun vals H => ∃ (g : Value) (p : Nat), (vals 9 = (.tuple #[.agg ((xI d (e.typ, e.agg) (zu d (evs ++ [e]))).cells g).toArray, .bool ((zr d (zu d (evs ++ [e])) (e.typ, e.agg)).isSome)] : Value)) ∧ (vals 13 = (Ix p 0 : Value)) ∧ Sep G W ((Blk p #[Iv 0, (Iz)] 57) :: N :: (RowE (α := Cel) own 107 g (stL d (e.typ, e.agg) (zu d (evs ++ [e])))) :: M :: TT) H, fun _ _ => True, fun _ _ => True, fun _ _ => True, fun vals H => ∃ (g : Value) (p : Nat), (vals 9 = (.tuple #[.agg ((xI d (e.typ, e.agg) (zu d (evs ++ [e]))).cells g).toArray, .bool ((zr d (zu d (evs ++ [e])) (e.typ, e.agg)).isSome)] : Value)) ∧ (vals 13 = (Ix p 0 : Value)) ∧ Sep G W ((Blk p ((xI d (e.typ, e.agg) (zu d (evs ++ [e]))).cells g).toArray 57) :: N :: (RowE (α := Cel) own 107 g (stL d (e.typ, e.agg) (zu d (evs ++ [e])))) :: M :: TT) H]) ((RowE (α := Int) own 3 u e.deps) :: fb :: eZ :: (RowE (α := Typ) own 84 E d.types) :: (RowE (α := Prj) own 46 y d.projs) :: (RowE (α := Ev) own 64 C evs) :: (zU B (prs d evs)) :: (yG q (yo d every evs)) :: Rs) eY fa) (AF [Vl 0 (Ix b 0), Vl 1 (Ix b 0), Vl 2 (Ix b 4), Vl 3 (Ix b 4), Vl 4 (Ix m 0), Vl 5 (Ix I 4), Vl 6 (Iv (e.typ)), Vl 7 (Ix I 5), Vl 8 (Iv (e.agg)), fun _ => True, fun vals => ∀ (g : Value), vals 9 = (.tuple #[.agg ((xI d (e.typ, e.agg) (zu d (evs ++ [e]))).cells g).toArray, .bool ((zr d (zu d (evs ++ [e])) (e.typ, e.agg)).isSome)] : Value) → vals 10 = (.tuple #[.agg ((xI d (e.typ, e.agg) (zu d (evs ++ [e]))).cells g).toArray, .bool ((zr d (zu d (evs ++ [e])) (e.typ, e.agg)).isSome)] : Value), fun vals => ∀ (g : Value), vals 9 = (.tuple #[.agg ((xI d (e.typ, e.agg) (zu d (evs ++ [e]))).cells g).toArray, .bool ((zr d (zu d (evs ++ [e])) (e.typ, e.agg)).isSome)] : Value) → vals 11 = (.agg ((xI d (e.typ, e.agg) (zu d (evs ++ [e]))).cells g).toArray : Value), Vl 12 (.bool ((zr d (zu d (evs ++ [e])) (e.typ, e.agg)).isSome)), fun _ => True, fun _ => True, Vl 15 (.bool ((zr d (zu d (evs ++ [e])) (e.typ, e.agg)).isSome))]) [[], [0], [0, 1], [0, 1, 2], (rg 4), [], [5], [], [7], (rg 9), (rg 10), (rg 11), (rg 11), [], [0, 1, 2, 3, 4, 5, 6, 7, 8, 9, 10, 11, 13], (rg 15)] [9, 13, 14] [[0, 2], [0, 2], [0, 2], [0, 2], [0, 2], [0, 2], [0, 2], [0, 2], [0, 2], [0, 2], [1, 3], [1, 3], [1, 3, 7], [0, 1], [3], [7]] cq ⟨fun _ _ _ _ _ _ => obl rfl (mV (Ix b 0) dR), fun _ _ _ _ _ cr => obl rfl (zl (b := b) (o := 0) (cr 0 dc) dR), fun _ _ _ _ _ cs => obl rfl (xM (cs 1 dc) dR), fun _ _ _ _ _ ct => obl rfl (WI (ct 2 dc) dR), ?_, fun _ _ _ _ _ _ => obl rfl (ZY rfl dR), ?_, fun _ _ _ _ _ _ => obl rfl (WO rfl dR), ?_, ?_, ?_, ?_, ?_, ?_, ?_, fun _ _ _ _ _ cu => obl rfl (zv (v := .bool ((zr d (zu d (evs ++ [e])) (e.typ, e.agg)).isSome)) (cu 12 dc) dR), trivial⟩ ?_ (hlocA := xt ⟨dA, dA, dA, dA, dA, dA, dA, dA, dA, dT, fun vals A F h => fun g Q => (F 10 (.inl rfl)).trans (h g ((F 9 (.inr dc)).symm.trans Q)), fun vals A F h => fun g Q => (F 11 (.inl rfl)).trans (h g ((F 9 (.inr dc)).symm.trans Q)), dA, dT, dT, dA, trivial⟩)
 intro ex vals w329 cv bl bm
 have aM : ex ∈ [0, 2] := cv
 simp only [List.mem_cons, List.not_mem_nil, or_false] at aM
 rcases aM with rfl | rfl
 have cw : Sep _ _ _ _ := bl
 exact obl rfl (lD (Ix m 0) lR (bm 3 dc) (zd (cw.b4) rfl) dR)
 obtain ⟨p, J, cx⟩ := bl
 exact obl rfl (lD (Ix m 0) lR (bm 3 dc) (zd (cx.b5) rfl) dR)
 intro ey vals w343 cy bn bp
 have aN : ey ∈ [0, 2] := cy
 simp only [List.mem_cons, List.not_mem_nil, or_false] at aN
 rcases aN with rfl | rfl
 have cz : Sep _ _ _ _ := bn
 exact obl rfl (lD (Iv (e.typ)) lT (bp 5 dc) (zd (cz.b3) rfl) dR)
 obtain ⟨p, J, cA⟩ := bn
 exact obl rfl (lD (Iv (e.typ)) lT (bp 5 dc) (zd (cA.b4) rfl) dR)
 intro ez vals w357 cB bq br
 have aO : ez ∈ [0, 2] := cB
 simp only [List.mem_cons, List.not_mem_nil, or_false] at aO
 rcases aO with rfl | rfl
 have cC : Sep _ _ _ _ := bq
 exact obl rfl (lD (Iv (e.agg)) lT (br 7 dc) (zd (cC.b3) rfl) dR)
 obtain ⟨p, J, cD⟩ := bq
 exact obl rfl (lD (Iv (e.agg)) lT (br 7 dc) (zd (cD.b4) rfl) dR)
 intro eA vals w366 cE bs ab
 have aP : eA ∈ [0, 2] := cE
 simp only [List.mem_cons, List.not_mem_nil, or_false] at aP
 rcases aP with rfl | rfl
 have cF : Sep _ _ _ _ := bs
 refine obl rfl ((zL (f := 52) (vals := [Ix m 0, Iv (e.typ), Iv (e.agg)]) (cap := []) rfl (yN ⟨(ab 4 dc), (ab 6 dc), (ab 8 dc), trivial⟩) tY (UB (ty := e.typ) (no := e.agg) oe.typ oe.agg (cF.mv1)) ?_))
 rintro _ w376 ⟨g, rfl, bt⟩
 have cG := bt.r1
 have hr378s : _ * 32 ≤ _ := cG.2
 exact fun A F z => ⟨(Exists.intro g (And.intro F bt)), trivial⟩
 obtain ⟨p, J, cH⟩ := bs
 refine obl rfl ((zL (f := 52) (vals := [Ix m 0, Iv (e.typ), Iv (e.agg)]) (cap := []) rfl (yN ⟨(ab 4 dc), (ab 6 dc), (ab 8 dc), trivial⟩) tY (UB (ty := e.typ) (no := e.agg) oe.typ oe.agg (cH.mv2)) ?_))
 rintro _ w385 ⟨g, rfl, bu⟩
 have cI := bu.r1
 have hr387s : _ * 32 ≤ _ := cI.2
 exact fun A F z => ⟨(Exists.intro g (Exists.intro p (And.intro F (And.intro ((z 13 dc).trans J) (bu.mv2))))), trivial⟩
 intro eB vals w390 cJ bv hA391
 have aQ : eB ∈ [1, 3] := cJ
 simp only [List.mem_cons, List.not_mem_nil, or_false] at aQ
 rcases aQ with rfl | rfl
 obtain ⟨g, t, hS394⟩ := bv
 refine obl rfl (zq (v := .tuple #[.agg ((xI d (e.typ, e.agg) (zu d (evs ++ [e]))).cells g).toArray, .bool ((zr d (zu d (evs ++ [e])) (e.typ, e.agg)).isSome)]) t (fun A F z => ⟨rfl, ?_⟩))
 intro aw Q
 rw [z 9 (by decide)] at Q; cases t.symm.trans Q
 exact F
 obtain ⟨g, p, t, J, hS395⟩ := bv
 refine obl rfl (zq (v := .tuple #[.agg ((xI d (e.typ, e.agg) (zu d (evs ++ [e]))).cells g).toArray, .bool ((zr d (zu d (evs ++ [e])) (e.typ, e.agg)).isSome)]) t (fun A F z => ⟨rfl, ?_⟩))
 intro aw Q
 rw [z 9 (by decide)] at Q; cases t.symm.trans Q
 exact F
 intro eC vals w397 cK bw bx
 have aR : eC ∈ [1, 3] := cK
 simp only [List.mem_cons, List.not_mem_nil, or_false] at aR
 rcases aR with rfl | rfl
 obtain ⟨g, t, hS401⟩ := bw
 let fd := (xI d (e.typ, e.agg) (zu d (evs ++ [e]))).cells g
 have eD : vals 10 = (.tuple #[.agg fd.toArray, .bool ((zr d (zu d (evs ++ [e])) (e.typ, e.agg)).isSome)] : Value) := bx 10 dc g t
 refine obl rfl (zF (vs := [.agg fd.toArray, .bool ((zr d (zu d (evs ++ [e])) (e.typ, e.agg)).isSome)]) (i := 0) (v := .agg fd.toArray) eD rfl (fun A F z => ⟨rfl, ?_⟩))
 intro aw Q
 rw [z 9 (by decide)] at Q; cases t.symm.trans Q
 exact F
 obtain ⟨g, p, t, J, hS403⟩ := bw
 let fe := (xI d (e.typ, e.agg) (zu d (evs ++ [e]))).cells g
 have eE : vals 10 = (.tuple #[.agg fe.toArray, .bool ((zr d (zu d (evs ++ [e])) (e.typ, e.agg)).isSome)] : Value) := bx 10 dc g t
 refine obl rfl (zF (vs := [.agg fe.toArray, .bool ((zr d (zu d (evs ++ [e])) (e.typ, e.agg)).isSome)]) (i := 0) (v := .agg fe.toArray) eE rfl (fun A F z => ⟨rfl, ?_⟩))
 intro aw Q
 rw [z 9 (by decide)] at Q; cases t.symm.trans Q
 exact F
 intro eF vals w406 cM ax ay
 have aT : eF ∈ [1, 3, 7] := cM
 simp only [List.mem_cons, List.not_mem_nil, or_false] at aT
 rcases aT with rfl | rfl | rfl
 obtain ⟨g, t, hS410⟩ := ax
 have eG : vals 10 = (.tuple #[.agg ((xI d (e.typ, e.agg) (zu d (evs ++ [e]))).cells g).toArray, .bool ((zr d (zu d (evs ++ [e])) (e.typ, e.agg)).isSome)] : Value) := ay 10 dc g t
 exact obl rfl (zF (vs := [.agg ((xI d (e.typ, e.agg) (zu d (evs ++ [e]))).cells g).toArray, .bool ((zr d (zu d (evs ++ [e])) (e.typ, e.agg)).isSome)]) (i := 1) (v := .bool ((zr d (zu d (evs ++ [e])) (e.typ, e.agg)).isSome)) eG rfl dR)
 obtain ⟨g, p, t, J, hS412⟩ := ax
 have eH : vals 10 = (.tuple #[.agg ((xI d (e.typ, e.agg) (zu d (evs ++ [e]))).cells g).toArray, .bool ((zr d (zu d (evs ++ [e])) (e.typ, e.agg)).isSome)] : Value) := ay 10 dc g t
 exact obl rfl (zF (vs := [.agg ((xI d (e.typ, e.agg) (zu d (evs ++ [e]))).cells g).toArray, .bool ((zr d (zu d (evs ++ [e])) (e.typ, e.agg)).isSome)]) (i := 1) (v := .bool ((zr d (zu d (evs ++ [e])) (e.typ, e.agg)).isSome)) eH rfl dR)
 obtain ⟨g, p, t, J, hS414⟩ := ax
 have eI : vals 10 = (.tuple #[.agg ((xI d (e.typ, e.agg) (zu d (evs ++ [e]))).cells g).toArray, .bool ((zr d (zu d (evs ++ [e])) (e.typ, e.agg)).isSome)] : Value) := ay 10 dc g t
 exact obl rfl (zF (vs := [.agg ((xI d (e.typ, e.agg) (zu d (evs ++ [e]))).cells g).toArray, .bool ((zr d (zu d (evs ++ [e])) (e.typ, e.agg)).isSome)]) (i := 1) (v := .bool ((zr d (zu d (evs ++ [e])) (e.typ, e.agg)).isSome)) eI rfl dR)
 intro eJ vals w417 cN bz hA418
 have aU : eJ ∈ [0, 1] := cN
 simp only [List.mem_cons, List.not_mem_nil, or_false] at aU
 rcases aU with rfl | rfl
 have cO : Sep _ _ _ _ := bz
 refine obl rfl ((zI uY ?_))
 intro w424 p cP
 exact fun A F z => ⟨(Exists.intro p (And.intro F (cO.new cP))), trivial⟩
 obtain ⟨g, t, cQ⟩ := bz
 refine obl rfl ((zI uY ?_))
 intro w429 p cR
 exact fun A F z => ⟨(Exists.intro g (Exists.intro p (And.intro ((z 9 dc).trans t) (And.intro F (cQ.new cR))))), trivial⟩
 intro eK vals w432 cS cT cU
 have aV : eK ∈ [3] := cS
 simp only [List.mem_cons, List.not_mem_nil, or_false] at aV
 subst aV
 obtain ⟨g, p, t, J, az⟩ := cT
 let ff := (xI d (e.typ, e.agg) (zu d (evs ++ [e]))).cells g
 refine obl rfl ?_
 have eL : vals 11 = (.agg ff.toArray : Value) := cU 11 dc g t
 have bA := az.r2
 have hr440s : _ * 32 ≤ _ := bA.2
 refine (zA (v := .agg ff.toArray) (c' := ff.toArray) Tryz.sizeOf57 J eL (az.b0) (yf ⟨rfl, bA.1.one, trivial⟩) yqc rfl ?_)
 intro w438 cV
 exact fun A F z => ⟨(Exists.intro g (Exists.intro p (And.intro ((z 9 dc).trans t) (And.intro ((z 13 dc).trans J) (az.pt0 cV))))), trivial⟩
 intro vals S cW hA450
 obtain ⟨g, p, t, J, cX⟩ := cW
 let eX := Blk p ((xI d (e.typ, e.agg) (zu d (evs ++ [e]))).cells g).toArray 57
 refine zW (kv := [(0, Ix b 0), (1, .agg (e.cells de0).toArray), (3, Ix I 0), (4, Ix s 0), (5, Ix p 0)]) ⟨rfl, rfl, rfl, rfl, (by exact J), trivial⟩ (fun ρw448 => (zb (za (za ?_))))
 obtain ⟨G453, cY, hB456, cZ, da⟩ := (cX.mv2).lend
 have aa := RowE.rd cY
 have hrd459s : _ * 32 ≤ _ := aa.small
 obtain ⟨T, db, am, bB, dd⟩ := (cZ.mv3).lend
 have aW := RowE.rd db
 have hrd467s : _ * 8 ≤ _ := aW.small
 refine R0 fun _ => st (mV (Ix b 0) (st (zl (b := b) (o := 0) rfl (st (Yz rfl (st (xv rfl (st (lD y sR rfl (zd (bB.b4) rfl) (st (zG (n := d.projs.length) mR rfl ba.1 (st (mV (Iv 0) (zb (zp ?_)))))))))))))))
 have ah : (prs d (evs ++ [e])).length = (prs d evs).length := by rw [Zf, Zf]
 have eM : (prs d evs).length = d.projs.length := Zf _ _
 refine zZ (fun mq σ H => ∃ (k : Nat) (ρ : Env), mq = d.projs.length - k ∧ σ = ya ρ [(0, Ix b 0), (3, Ix I 0), (4, Ix s 0), (5, Ix p 0), (34, y), (35, Iw d.projs.length), (36, Iw k)] ∧ (k ≤ d.projs.length) ∧ Sep T S ((Blk p ((xI d (e.typ, e.agg) (zu d (evs ++ [e]))).cells g).toArray 57) :: (ViewO m d (zu d (evs ++ [e])) (zu d (evs ++ [e]))) :: (Blk s ((yg d (zu d evs) e).cells u).toArray 66) :: (Blk I (e.cells de0).toArray 64) :: (Blk b #[E, y, Iw every, C, Ix m 0, B, q] 81) :: (RowE (α := Typ) own 84 E d.types) :: (RowE (α := Prj) own 46 y d.projs) :: (RowE (α := Ev) own 64 C evs) :: (zU B (xF (prs d (evs ++ [e])) (prs d evs) k)) :: (yG q (yo d every evs)) :: Rs) H) ⟨0, _, rfl, sSf, Nat.zero_le _, bB⟩ ?_
 rintro m469 σ470 w468 ⟨k, ρl1, rfl, rfl, hkk, af⟩
 refine za (R0 fun _ => st (zJ (k := .i64) (a := ((k : Nat) : Int)) (b := ((d.projs.length : Nat) : Int)) rfl rfl (zb (za ?_))))
 cases an : decide (((k : Nat) : Int) < ((d.projs.length : Nat) : Int))
 have an := fD an
 have eN : xF (prs d (evs ++ [e])) (prs d evs) k = (prs d (evs ++ [e])) := Kb ah om
 try simp +zetaDelta only at af
 rw [eN] at af
 refine zf rfl (zY (zR (za ?_)))
 have de := dd _ _ af
 have df := da _ _ de
 refine WD4 ((fun TT M N V X Y ai aj aX aY bL => WF [fun vals H => Sep G W (M :: N :: V :: X :: Y :: ai :: aj :: aX :: aY :: bL :: TT) H, fun vals H => ∃ (D : Value), (vals 6 = (.agg (e.cells D).toArray : Value)) ∧ Sep G W ((RowE (α := Int) own 3 D e.deps) :: M :: N :: V :: X :: Y :: ai :: aj :: aX :: aY :: bL :: TT) H, fun vals H => ∃ (D : Value) (K : Nat), (vals 6 = (.agg (e.cells D).toArray : Value)) ∧ (vals 7 = ((Iy K 1 1) : Value)) ∧ Sep G W ((Blk K (e.cells D).toArray 64) :: (RowE (α := Int) own 3 D e.deps) :: M :: N :: V :: X :: Y :: ai :: aj :: aX :: aY :: bL :: TT) H, fun vals H => ∃ (D : Value) (K : Nat) (L : Value), (vals 6 = (.agg (e.cells D).toArray : Value)) ∧ (vals 7 = ((Iy K 1 1) : Value)) ∧ (vals 8 = (L : Value)) ∧ Sep G W ((RowE (α := Ev) own 64 L (evs ++ [e])) :: M :: N :: V :: X :: Y :: ai :: aj :: aX :: aY :: TT) H, fun vals H => ∃ (D : Value) (K : Nat) (L : Value), (vals 6 = (.agg (e.cells D).toArray : Value)) ∧ (vals 7 = ((Iy K 1 1) : Value)) ∧ (vals 8 = (L : Value)) ∧ Sep G W ((RowE (α := Ev) own 64 L (evs ++ [e])) :: M :: N :: V :: X :: Y :: ai :: (Blk b #[E, y, Iw every, L, Ix m 0, B, q] 81) :: aX :: aY :: TT) H]) ((zU B (prs d (evs ++ [e]))) :: (yG q (yo d every evs)) :: Rs) (RowE (α := Cel) own 107 g (stL d (e.typ, e.agg) (zu d (evs ++ [e])))) (RowE (α := Int) own 3 u e.deps) eX fa eY fb eZ (RowE (α := Typ) own 84 E d.types) (RowE (α := Prj) own 46 y d.projs) (RowE (α := Ev) own 64 C evs)) (AF [Vl 0 (Ix b 0), Vl 1 (Ix b 0), Vl 2 (Ix b 0), Vl 3 (Ix b 3), Vl 4 (C), Vl 5 (.agg (e.cells de0).toArray), fun _ => True, fun _ => True, fun _ => True, Vl 9 (Ix b 0), Vl 10 (Ix b 3), fun _ => True]) [[], [], [1], [1, 2], [1, 2, 3], [], [5], [5, 6], [1, 2, 3, 4, 5, 6, 7], (rg 9), (rg 10), (rg 11)] [6, 7, 8, 11] [(0, 3), (0, 2), (0, 2), (0, 2), (0, 2), (0, 0), (0, 0), (1, 1), (2, 2), (3, 3), (3, 3), (3, 3)] df ⟨fun _ _ _ _ _ _ _ => obl rfl (mV (Ix b 0) dR), fun _ _ _ _ _ _ _ => obl rfl (mV (Ix b 0) dR), fun _ _ _ _ _ _ dg => obl rfl (zl (b := b) (o := 0) (dg 1 dc) dR), fun _ _ _ _ _ _ dh => obl rfl (xW (dh 2 dc) dR), ?_, ob1 0 fun _ _ (di : Sep _ _ _ _) _ => obl rfl (zg (k := 10) uT nT rfl rfl (CellsAt.all (di.b5)) dR), ?_, ?_, ?_, fun _ _ _ _ _ _ dj => obl rfl (zl (b := b) (o := 0) (dj 0 dc) dR), fun _ _ _ _ _ _ dk => obl rfl (xW (dk 9 dc) dR), ?_, trivial⟩ ?_
 refine fun ap _ _ eO eP aA aB => ?_
 have hkk : ap = 0 ∨ ap = 1 ∨ ap = 2 := by have h1 : 0 ≤ ap := eO; have h2 : ap ≤ 2 := eP; omega
 rcases hkk with rfl | rfl | rfl
 have dl : Sep _ _ _ _ := aA
 exact obl rfl (lD C pT (aB 3 dc) (zd (dl.b6) rfl) dR)
 obtain ⟨D, P, dm⟩ := aA
 exact obl rfl (lD C pT (aB 3 dc) (zd (dm.b7) rfl) dR)
 obtain ⟨D, K, P, ac, dp⟩ := aA
 exact obl rfl (lD C pT (aB 3 dc) (zd (dp.b8) rfl) dR)
 refine ob1 0 fun vals _ (dq : Sep _ _ _ _) dr => (obl rfl ((zL (f := 65) (vals := [.agg (e.cells de0).toArray]) (cap := []) rfl (yN ⟨(dr 5 dc), trivial⟩) Tryz.call65 (KP (e := e) hde0 oe dq) ?_)))
 rintro _ w525 ⟨D, rfl, bC⟩
 have ds := bC.r0
 have hr527s : _ * 8 ≤ _ := ds.2
 exact fun A F z => ⟨(Exists.intro D (And.intro F bC)), trivial⟩
 refine ob1 1 fun _ _ dt _ => ?_
 obtain ⟨D, P, du⟩ := dt
 refine obl rfl ((zD (k := 10) (parts' := [(0, .agg (e.cells D).toArray)]) (c := (e.cells D).toArray) rR nT vR dc (xH ⟨rfl, P, trivial⟩) kr ?_))
 intro w538 K dv
 exact fun A F z => ⟨(Exists.intro D (Exists.intro K (And.intro ((z 6 dc).trans P) (And.intro F (du.new dv))))), trivial⟩
 refine ob1 2 fun _ _ dw dx => ?_
 obtain ⟨D, K, P, ac, bD⟩ := dw
 refine obl rfl ?_
 have bM := bD.b0
 refine (yv (src := own) (bytes := 96) (x1 := e) (bD.s14_lbcdefghijkmn) Ql (dx 4 (by decide)) ac bM (fun _ _ hN => ⟨_, rfl, RowE.soft hN, oe⟩) yqb rfl ?_)
 intro L w549 bE
 have dy := bE.r0
 have hr554s : _ * 96 ≤ _ := dy.2
 exact fun A F z => ⟨(Exists.intro D (Exists.intro K (Exists.intro L (And.intro ((z 6 dc).trans P) (And.intro ((z 7 dc).trans ac) (And.intro F bE)))))), trivial⟩
 refine ob1 3 fun _ _ dz dB => ?_
 obtain ⟨D, K, L, P, ac, aC, aD⟩ := dz
 refine obl rfl ?_
 have bF := aD.r0
 have hr580s : _ * 96 ≤ _ := bF.2
 refine (yq (v := L) (c := [E, y, Iw every, C, Ix m 0, B, q]) (c' := [E, y, Iw every, L, Ix m 0, B, q]) vY (dB 10 dc) aC (aD.b7) bF.1.one rfl rfl ?_)
 intro w578 dD
 exact fun A F z => ⟨(Exists.intro D (Exists.intro K (Exists.intro L (And.intro ((z 6 dc).trans P) (And.intro ((z 7 dc).trans ac) (And.intro ((z 8 dc).trans aC) (aD.pt7 dD))))))), trivial⟩
 intro vals w641 dE hA643
 obtain ⟨D, K, L, P, ac, aC, dF⟩ := dE
 refine zW (kv := [(0, Ix b 0), (3, Ix I 0), (4, Ix s 0), (5, Ix p 0), (34, y), (35, Iw d.projs.length), (36, Iw k), (37, .bool false)]) sEv (fun ρw641 => (zb (zt (by kernel_rfl) (fun _ => (st (mV (Ix b 0) (st (cL wY (QY  hKN (dF.s12_hijaklbcdefg) (hd) ((by rw [List.length_append, List.length_singleton]; omega)) ((Jt ar (by omega))) (ar.1)) ?_))))))))
 rintro _ bN ⟨vpts2646, rfl, ad⟩
 have dG := ad.r1
 have hr649s : _ * 24 ≤ _ := dG.2
 have dH := ad.r2
 have hr650s : _ * 40 ≤ _ := dH.2
 have dI := ad.r3
 have hr651s : _ * 96 ≤ _ := dI.2
 refine zb (YQ Tryz.results42 ?_)
 have eQ := Qh (d := d) (l := evs) (e := e) ar.1
 try simp +zetaDelta only at ad
 rw [eQ] at ad
 have dJ : Sep G W ((BaseO b d every (evs ++ [e])) :: (RowE (α := Cel) own 107 g (stL d (e.typ, e.agg) (zu d (evs ++ [e])))) :: (RowE (α := Int) own 3 u e.deps) :: eX :: eY :: fb :: Rs) bN := BaseO.close (d := d) (every := every) (evs := (evs ++ [e])) ar (ad.s12_abcdjefghikl)
 have dK : Sep G W ((BaseO b d every (evs ++ [e])) :: Rs) bN := dJ.sel 6 [0] (Nat.le_add_left _ _) rfl rfl
 refine ⟨rfl, dK⟩
 have an := tD an
 refine zi rfl (zn (za (zp (za (R0 fun _ => st (mV (Iw k) ?_))))))
 have dL : k < d.projs.length := bo
 refine st (ze (k := 5) (i := k) mR mT rfl ba.1 rfl dL ?_)
 have dM : k < d.projs.length := bo
 obtain ⟨_, _, bO, rfl, hoke656⟩ := af.rowAtD (i := 6) (j := k) rfl dM
 refine st (zg (k := 5) tT mT rfl rfl bO (st (zI kA ?_)))
 intro w660 R dN
 let fc := Blk R ((d.projs.getD k default).cells).toArray 46
 have bG := af.new dN
 refine st (aS (Iw k) (stn (zA (v := .agg ((d.projs.getD k default).cells).toArray) (c' := ((d.projs.getD k default).cells).toArray) mT rfl rfl (bG.b0) (yf ⟨rfl, rfl, rfl, rfl, rfl, trivial⟩) yqc rfl ?_)))
 intro w662 dO
 have U := bG.pt0 dO
 refine zb (za (R0 fun _ => st (aS (Iv 0) (zb (za (za ?_))))))
 have hby9 : 0 ≤ (d.projs.getD k default).pby := (hp.2 k om).1
 refine R0 fun _ => st (Wt rfl (st (lD (Iv ((d.projs.getD k default).pby)) lT rfl (zd (U.b0) rfl) (st (xR rfl (st (lD g lA rfl (zd (U.b1) rfl) (st (zG (n := (stL d (e.typ, e.agg) (zu d (evs ++ [e]))).length) mA rfl (RdS.base aa am).sl (st (zJ (k := .i64) (a := (d.projs.getD k default).pby) (b := (((stL d (e.typ, e.agg) (zu d (evs ++ [e]))).length : Nat) : Int)) rfl rfl (zb ?_))))))))))))
 refine Wy (fun σ H => ∃ (O : Int) (ρ : Env), σ = ya ρ [(0, Ix b 0), (3, Ix I 0), (4, Ix s 0), (5, Ix p 0), (34, y), (35, Iw d.projs.length), (36, Iw k), (8, Ix R 0), (7, Iw k), (9, Iv O)] ∧ (O = (Ko d (d.projs.getD k default) (zu d (evs ++ [e])) e) ∧ InR O) ∧ Sep T S (fc :: eX :: fa :: eY :: fb :: eZ :: (RowE (α := Typ) own 84 E d.types) :: (RowE (α := Prj) own 46 y d.projs) :: (RowE (α := Ev) own 64 C evs) :: (zU B (xF (prs d (evs ++ [e])) (prs d evs) k)) :: (yG q (yo d every evs)) :: Rs) H) ?_ ?_
 cases ae : decide (((d.projs.getD k default).pby) < (((stL d (e.typ, e.agg) (zu d (evs ++ [e]))).length : Nat) : Int))
 have ae := fD ae
 refine zf rfl (zn ?_)
 exact ⟨rfl, 0, _, yE ⟨(show _ = (Ix b 0 : Value) from rfl), (show _ = (Ix I 0 : Value) from rfl), (show _ = (Ix s 0 : Value) from rfl), (show _ = (Ix p 0 : Value) from rfl), (show _ = (y : Value) from rfl), (show _ = (Iw d.projs.length : Value) from rfl), (show _ = (Iw k : Value) from rfl), (show _ = (Ix R 0 : Value) from rfl), (show _ = (Iw k : Value) from rfl), (show _ = (Iv 0 : Value) from rfl), trivial⟩, ⟨(by unfold Ko; rw [if_neg (by simpa using ae)]), (by decide)⟩, U⟩
 have ae := tD ae
 refine zi rfl (R0 fun _ => st (xR rfl (st (lD g lA rfl (zd (U.b1) rfl) (st (Wt rfl (st (lD (Iv ((d.projs.getD k default).pby)) lT rfl (zd (U.b0) rfl) ?_))))))))
 have hi666 : ((d.projs.getD k default).pby).toNat < (stL d (e.typ, e.agg) (zu d (evs ++ [e]))).length := bo
 refine st (zN (k := 2) (i := (d.projs.getD k default).pby) mA Tryz.sizeOf107 rfl (RdS.base aa am).sl rfl ⟨by omega, by omega⟩ (st (xP rfl ?_)))
 have bH : ((d.projs.getD k default).pby).toNat < (stL d (e.typ, e.agg) (zu d (evs ++ [e]))).length := bo
 obtain ⟨bP, bb, bK⟩ := (RdS.base aa am).celD bH
 have hsm669 : (((stL d (e.typ, e.agg) (zu d (evs ++ [e]))).getD (((d.projs.getD k default).pby).toNat) default).set).length * 8 ≤ 140737488355328 := bb.small
 have bQ := U.cells bP ((RdS.base aa am).foot (ne_of_lt bH))
 refine st (lD (Iv (((stL d (e.typ, e.agg) (zu d (evs ++ [e]))).getD (((d.projs.getD k default).pby).toNat) default).n)) lT rfl (bQ.get (j := 0) rfl) (st (aS (Iv (((stL d (e.typ, e.agg) (zu d (evs ++ [e]))).getD (((d.projs.getD k default).pby).toNat) default).n)) (zb ?_))))
 exact ⟨rfl, ((stL d (e.typ, e.agg) (zu d (evs ++ [e]))).getD (((d.projs.getD k default).pby).toNat) default).n, _, yE ⟨(show _ = (Ix b 0 : Value) from rfl), (show _ = (Ix I 0 : Value) from rfl), (show _ = (Ix s 0 : Value) from rfl), (show _ = (Ix p 0 : Value) from rfl), (show _ = (y : Value) from rfl), (show _ = (Iw d.projs.length : Value) from rfl), (show _ = (Iw k : Value) from rfl), (show _ = (Ix R 0 : Value) from rfl), (show _ = (Iw k : Value) from rfl), (show _ = (Iv (((stL d (e.typ, e.agg) (zu d (evs ++ [e]))).getD (((d.projs.getD k default).pby).toNat) default).n) : Value) from rfl), trivial⟩, ⟨(by unfold Ko; rw [if_pos (by simpa using ae)]), bK.n⟩, U⟩
 rintro _ bc ⟨O, ρj1, rfl, bR, dP⟩
 have eR := bR.1
 obtain ⟨x, ag, dQ⟩ := ZipW.open (dP.mv9)
 have aZ : Sep T S ((RowE (α := PtC) own 93 B x) :: (Star (Zip xo x (xF (prs d (evs ++ [e])) (prs d evs) k))) :: fc :: eX :: fa :: eY :: fb :: eZ :: (RowE (α := Typ) own 84 E d.types) :: (RowE (α := Prj) own 46 y d.projs) :: (RowE (α := Ev) own 64 C evs) :: (yG q (yo d every evs)) :: Rs) bc := dQ
 have bI := aZ.r0
 have hr677s : _ * 8 ≤ _ := bI.2
 have hsl9 : x.length = d.projs.length := by rw [ag, Xv ah, eM]
 have aE : Sep T S ((ProjO ((x.getD k default).b) (((xF (prs d (evs ++ [e])) (prs d evs) k).getD k default).1) (((xF (prs d (evs ++ [e])) (prs d evs) k).getD k default).2)) :: (Star ((Zip xo x (xF (prs d (evs ++ [e])) (prs d evs) k)).set k Emp)) :: (RowE (α := PtC) own 93 B x) :: (Blk R ((d.projs.getD k default).cells).toArray 46) :: (Blk p ((xI d (e.typ, e.agg) (zu d (evs ++ [e]))).cells g).toArray 57) :: (ViewO m d (zu d (evs ++ [e])) (zu d (evs ++ [e]))) :: (Blk s ((yg d (zu d evs) e).cells u).toArray 66) :: (Blk I (e.cells de0).toArray 64) :: (Blk b #[E, y, Iw every, C, Ix m 0, B, q] 81) :: (RowE (α := Typ) own 84 E d.types) :: (RowE (α := Prj) own 46 y d.projs) :: (RowE (α := Ev) own 64 C evs) :: (yG q (yo d every evs)) :: Rs) bc := ZipW.take ag (by rw [Xv ah]; omega) (aZ.mv1)
 have eU : (xF (prs d (evs ++ [e])) (prs d evs) k).getD k default = ((d.projs.getD k default), xx d (d.projs.getD k default) evs) := (KH ah om).trans (Wu om)
 try simp +zetaDelta only at aE
 rw [eU] at aE
 have dS : Sep T S ((ProjO ((x.getD k default).b) (d.projs.getD k default) (xx d (d.projs.getD k default) evs)) :: (Star ((Zip xo x (xF (prs d (evs ++ [e])) (prs d evs) k)).set k Emp)) :: (RowE (α := PtC) own 93 B x) :: fc :: eX :: fa :: eY :: fb :: eZ :: (RowE (α := Typ) own 84 E d.types) :: (RowE (α := Prj) own 46 y d.projs) :: (RowE (α := Ev) own 64 C evs) :: (yG q (yo d every evs)) :: Rs) bc := aE
 refine WD4 ((fun TT => WF [fun vals H => Sep T S ((ProjO ((x.getD k default).b) (d.projs.getD k default) (xx d (d.projs.getD k default) evs)) :: TT) H, fun vals H => (vals 10 = (.tuple #[] : Value)) ∧ Sep T S ((ProjO ((x.getD k default).b) (d.projs.getD k default) (Zl (d.projs.getD k default) (xx d (d.projs.getD k default) evs) (yg d (zu d evs) e) O)) :: TT) H]) ((Star ((Zip xo x (xF (prs d (evs ++ [e])) (prs d evs) k)).set k Emp)) :: (RowE (α := PtC) own 93 B x) :: fc :: eX :: fa :: eY :: fb :: eZ :: (RowE (α := Typ) own 84 E d.types) :: (RowE (α := Prj) own 46 y d.projs) :: (RowE (α := Ev) own 64 C evs) :: (yG q (yo d every evs)) :: Rs)) (AF [Vl 0 (Ix b 0), Vl 1 (Ix b 0), Vl 2 (Ix b 4), Vl 3 (Ix b 5), Vl 4 (B), Vl 5 (Iw k), Vl 6 (Ix (sb B) (so B + k * 1)), Vl 7 (Ix ((x.getD k default).b) 0), Vl 8 (.agg ((yg d (zu d evs) e).cells u).toArray), Vl 9 (Iv O), fun _ => True]) [[], [0], [0, 1], [0, 1, 2], (rg 4), [], (rg 6), (rg 7), [], [], (rg 10)] [10] [(0, 0), (0, 0), (0, 0), (0, 0), (0, 0), (0, 0), (0, 0), (0, 0), (0, 0), (0, 0), (0, 0)] dS ⟨fun _ _ _ _ _ _ _ => obl rfl (mV (Ix b 0) dR), fun _ _ _ _ _ _ dU => obl rfl (zl (b := b) (o := 0) (dU 0 dc) dR), fun _ _ _ _ _ _ dV => obl rfl (xM (dV 1 dc) dR), fun _ _ _ _ _ _ dW => obl rfl (ZA (dW 2 dc) dR), ob1 0 fun _ _ (dX : Sep _ _ _ _) dY => obl rfl (lD B oT (dY 3 dc) (zd (dX.b8) rfl) dR), fun _ _ _ _ _ _ _ => obl rfl (mV (Iw k) dR), ?_, ?_, ob1 0 fun _ _ (dZ : Sep _ _ _ _) _ => obl rfl (zg (k := 13) Tryz.isAgg66 sY rfl rfl (CellsAt.all (dZ.b6)) dR), fun _ _ _ _ _ _ _ => obl rfl (mV (Iv O) dR), ?_, trivial⟩ ?_
 refine ob1 0 fun _ _ _ bJ => (obl rfl ?_)
 have ea : k < x.length := bo
 exact ze (k := 1) (i := k) sT kR (bJ 4 dc) bI.1 (bJ 5 dc) ea dR
 refine ob1 0 fun _ _ (eb : Sep _ _ _ _) ec => (obl rfl ?_)
 have ed : k < x.length := bo
 obtain ⟨_, _, aq, rfl, hpke827⟩ := eb.rowAtD (i := 2) (j := k) rfl ed
 have aq : CellsAt _ _ _ [Ix ((x.getD k default).b) 0] := aq
 exact lD (Ix ((x.getD k default).b) 0) kY (ec 6 dc) (aq.get (j := 0) rfl) dR
 refine ob1 0 fun vals _ (ee : Sep _ _ _ _) aF => (obl rfl ((zL (f := 64) (vals := [Ix ((x.getD k default).b) 0, .agg ((yg d (zu d evs) e).cells u).toArray, Iv O]) (cap := []) rfl (yN ⟨(aF 7 dc), (aF 8 dc), (aF 9 dc), trivial⟩) Tryz.call64 (zaP (e := (yg d (zu d evs) e)) (reg := O) aW ew bR.2 ee ((fun g9 => by have h9 := (Jd (ZI d (d.projs.getD k default) evs) g9).2; omega))) ?_)))
 rintro _ w765 ⟨rfl, ef⟩
 exact fun A F z => ⟨(And.intro F ef), trivial⟩
 intro vals bS eg hA844
 obtain ⟨he767, eh⟩ := eg
 refine zW (kv := [(0, Ix b 0), (3, Ix I 0), (4, Ix s 0), (5, Ix p 0), (34, y), (35, Iw d.projs.length), (36, Iw k), (8, Ix R 0), (7, Iw k), (9, Iv O)]) sEv (fun ρw842 => (zb ?_))
 have ei : Sep T S ((Star (Zip xo x ((xF (prs d (evs ++ [e])) (prs d evs) k).set k (((d.projs.getD k default), Zl (d.projs.getD k default) (xx d (d.projs.getD k default) evs) (yg d (zu d evs) e) O) : PR)))) :: (RowE (α := PtC) own 93 B x) :: (Blk R ((d.projs.getD k default).cells).toArray 46) :: (Blk p ((xI d (e.typ, e.agg) (zu d (evs ++ [e]))).cells g).toArray 57) :: (ViewO m d (zu d (evs ++ [e])) (zu d (evs ++ [e]))) :: (Blk s ((yg d (zu d evs) e).cells u).toArray 66) :: (Blk I (e.cells de0).toArray 64) :: (Blk b #[E, y, Iw every, C, Ix m 0, B, q] 81) :: (RowE (α := Typ) own 84 E d.types) :: (RowE (α := Prj) own 46 y d.projs) :: (RowE (α := Ev) own 64 C evs) :: (yG q (yo d every evs)) :: Rs) bS := ZipW.put (i := k) (c := (((d.projs.getD k default), Zl (d.projs.getD k default) (xx d (d.projs.getD k default) evs) (yg d (zu d evs) e) O) : PR)) ag (by rw [Xv ah]; omega) eh
 have bT : x.length = ((xF (prs d (evs ++ [e])) (prs d evs) k).set k (((d.projs.getD k default), Zl (d.projs.getD k default) (xx d (d.projs.getD k default) evs) (yg d (zu d evs) e) O) : PR)).length := by rw [List.length_set]; exact ag
 have aG : Sep T S ((zU B ((xF (prs d (evs ++ [e])) (prs d evs) k).set k (((d.projs.getD k default), Zl (d.projs.getD k default) (xx d (d.projs.getD k default) evs) (yg d (zu d evs) e) O) : PR))) :: fc :: eX :: fa :: eY :: fb :: eZ :: (RowE (α := Typ) own 84 E d.types) :: (RowE (α := Prj) own 46 y d.projs) :: (RowE (α := Ev) own 64 C evs) :: (yG q (yo d every evs)) :: Rs) bS := ZipW.mk bT (ei.mv1)
 have eV : (((d.projs.getD k default), Zl (d.projs.getD k default) (xx d (d.projs.getD k default) evs) (yg d (zu d evs) e) O) : PR) = (prs d (evs ++ [e])).getD k default := by rw [Wu (by omega), YA, eR]
 have eW : (xF (prs d (evs ++ [e])) (prs d evs) k).set k (((d.projs.getD k default), Zl (d.projs.getD k default) (xx d (d.projs.getD k default) evs) (yg d (zu d evs) e) O) : PR) = xF (prs d (evs ++ [e])) (prs d evs) (k + 1) := by rw [eV]; exact KK ah (by omega)
 try simp +zetaDelta only at aG
 rw [eW] at aG
 refine R0 fun _ => ?_
 have ej : InR ((k + 1 : Nat) : Int) := bo
 refine st (zO (r := ((k + 1 : Nat) : Int)) (k := .i64) (a := ((k : Nat) : Int)) (b := 1) rfl rfl (by rw [show (((k : Nat) : Int) + 1 : Int) = ((k + 1 : Nat) : Int) from bo]; exact zy ej) (st (mV (Iw (k + 1)) (zb ?_))))
 exact ⟨_, by omega, k + 1, _, rfl, sSf, by omega, (aG.s11_cdefghijak)⟩

theorem VD {G : Nat → Prop} {W w : World} {Rs : List HP} {d : Dcl} {dd0 : Value} (hdd0 : RdS W G dd0 d.types) {dd1 : Value} (hdd1 : RdS W G dd1 d.projs) (od : d.Ok) {every : Int} (hevery : InR every) (hKN : RdS W G (.slice (some ⟨0, 0, none⟩) 6 6) kindsL) (hS0 : Sep G W Rs w) (hd : DclOk d) : Ret Tryz.prog 12 [.agg (d.cells dd0 dd1).toArray, .int .i64 (every)] w (fun r w' => ∃ (b : Nat) (ev : Nat), r = (.pointer (some ⟨b, 0, none⟩) : Value) ∧ (((ev : Nat) : Int) = max 1 every) ∧ Sep G W ((BaseO b d ev ([] : List Ev)) :: Rs) w') := by
 have hdd0s : _ * 24 ≤ _ := hdd0.small
 have hdd1s : _ * 40 ≤ _ := hdd1.small
 have hKNs : _ * 8 ≤ _ := hKN.small
 refine zk (args := [.agg (d.cells dd0 dd1).toArray, Iv every]) Tryz.func12 rfl rfl ?_
 refine za (R0 fun _ => st (zS (v := .agg (d.cells dd0 dd1).toArray) rfl ?_))
 intro w3 b2 cA
 have bP := hS0.new cA
 refine st (aS (.pointer none) (zb (za (R0 fun _ => st (xv rfl (st (lD dd1 sR rfl (zd (bP.b0) rfl) (st (cL Tryz.call35 (XF (l := d.projs) (vl := dd1) hdd1 bP) ?_)))))))))
 rintro h w6 ⟨_, rfl, bQ⟩
 have aj := bQ.r0
 have hr8s : _ * 40 ≤ _ := aj.2
 refine st (zQ (parts' := [(1, h)]) (v := .agg #[(Iz), h]) rfl (by obtain ⟨_, _, cB, _⟩ := aj.1; rw [show h = Value.slice _ _ _ from cB]; simp [Instr.build, Instr.fill, go_sem, Dcl.cells, Typ.cells]) (st (mV (Iv every) (st (VU (k := .i64) (a := 1) (b := every) rfl rfl (st (zQ (parts' := [(0, .agg #[(Iz), h]), (1, Iv (max 1 every))]) (v := .agg #[(Iz), h, Iv (max 1 every), (Iz), .pointer none, (Iz), (Iz)]) rfl (by simp [Instr.build, Instr.fill, go_sem, Dcl.cells, Typ.cells]) (st (zS (v := .agg #[(Iz), h, Iv (max 1 every), (Iz), .pointer none, (Iz), (Iz)]) rfl ?_)))))))))
 intro w12 e bR
 have aL := bQ.new bR
 refine st (aS (Ix e 0) (zb (za (za (R0 fun _ => st (yx rfl (st (lD dd0 nA rfl (zd (aL.b2) rfl) (st (zG (n := d.types.length) tR rfl hdd0.sl (st (mV (Iv 0) (zb (zp ?_))))))))))))))
 have bS : Sep _ _ ((RowE (α := Typ) own 84 (Iz) ([] : List Typ)) :: _) _ := aL.rowNil own 84
 refine zZ (fun mq σ B => ∃ (k : Nat) (vo : Value) (ρ : Env), mq = d.types.length - k ∧ σ = ya ρ [(2, Ix b2 0), (4, .pointer none), (5, Ix e 0), (21, dd0), (22, Iw d.types.length), (23, Iw k)] ∧ (k ≤ d.types.length) ∧ Sep G W ((RowE (α := Typ) own 84 vo (d.types.take k)) :: (Blk e #[vo, h, Iv (max 1 every), (Iz), .pointer none, (Iz), (Iz)] 81) :: (RowE (α := Prj) own 46 h d.projs) :: (Blk b2 (d.cells dd0 dd1).toArray 25) :: Rs) B) ⟨0, (Iz), _, rfl, sSf, Nat.zero_le _, bS⟩ ?_
 rintro m16 σ17 w15 ⟨k, vo, ρl1, rfl, rfl, hkk, C⟩
 have bT := C.r0
 have hr19s : _ * 24 ≤ _ := bT.2
 refine za (R0 fun _ => st (zJ (k := .i64) (a := ((k : Nat) : Int)) (b := ((d.types.length : Nat) : Int)) rfl rfl (zb (za ?_))))
 cases P : decide (((k : Nat) : Int) < ((d.types.length : Nat) : Int))
 have P := fD P
 have hkn : k = d.types.length := by omega
 rw [hkn, List.take_of_length_le (Nat.le_refl d.types.length)] at C
 have bU := C.r0
 have hr21s : _ * 24 ≤ _ := bU.2
 refine zf rfl (zY (zR (za (R0 fun _ => st (mV (Ix e 0) (st (mV (Ix e 0) (st (zl (b := e) (o := 0) rfl (st (Yz rfl (st (zg (k := 2) (cs := [vo, h]) pR qR rfl rfl (CellsAt.sub (CellsAt.all (C.b1)) 0 (cs2 := [vo, h]) rfl) ?_)))))))))))))
 obtain ⟨G22, bV, hB25, bW, bX⟩ := C.lend
 have ak := RowE.rd bV
 have hrd28s : _ * 24 ≤ _ := ak.small
 obtain ⟨G30, bY, bZ, ca, cb⟩ := (bW.mv1).lend
 have al := RowE.rd bY
 have hrd36s : _ * 40 ≤ _ := al.small
 refine st (cL Tryz.call38 (KC (d := d) (RdS.base ak bZ) al od ca) ?_)
 rintro _ w38 ⟨y, rfl, cc⟩
 have cd := cb _ _ cc
 have aM := bX _ _ cd
 refine st (zl (b := e) (o := 0) rfl (st (xM rfl (st (WI rfl (stn (yq (v := Ix y 0) (c := [vo, h, Iv (max 1 every), (Iz), .pointer none, (Iz), (Iz)]) (c' := [vo, h, Iv (max 1 every), (Iz), Ix y 0, (Iz), (Iz)]) Tryz.sizeOf75 rfl rfl (aM.b3) rfl rfl rfl ?_)))))))
 intro cC ce
 have aN := aM.pt3 ce
 refine zb (za (za (R0 fun _ => st (mV (Ix e 0) (st (zl (b := e) (o := 0) rfl (st (Yz rfl (st (xv rfl (st (lD h sR rfl (zd (aN.b3) rfl) (st (zG (n := d.projs.length) mR rfl aj.1 (st (mV (Iv 0) (zb (zp ?_))))))))))))))))))
 have cf : Sep G W ((zU (Iz) ([] : List PR)) :: (RowE (α := Typ) own 84 vo d.types) :: (RowE (α := Prj) own 46 h d.projs) :: (ViewO y d [] []) :: (Blk e #[vo, h, Iv (max 1 every), (Iz), Ix y 0, (Iz), (Iz)] 81) :: (Blk b2 (d.cells dd0 dd1).toArray 25) :: Rs) cC := ZipW.nil xo 93 aN
 have cg : (prs d []).length = d.projs.length := Zf _ _
 refine zZ (fun mq σ B => ∃ (k : Nat) (vw : Value) (ρ : Env), mq = d.projs.length - k ∧ σ = ya ρ [(4, .pointer none), (5, Ix e 0), (73, h), (74, Iw d.projs.length), (75, Iw k)] ∧ (k ≤ d.projs.length) ∧ Sep G W ((zU vw ((prs d []).take k)) :: (RowE (α := Typ) own 84 vo d.types) :: (RowE (α := Prj) own 46 h d.projs) :: (ViewO y d [] []) :: (Blk e #[vo, h, Iv (max 1 every), (Iz), Ix y 0, vw, (Iz)] 81) :: (Blk b2 (d.cells dd0 dd1).toArray 25) :: Rs) B) ⟨0, (Iz), _, rfl, sSf, Nat.zero_le _, cf⟩ ?_
 rintro m47 σ48 cD ⟨k, vw, ρl2, rfl, rfl, hkk, K⟩
 refine za (R0 fun _ => st (zJ (k := .i64) (a := ((k : Nat) : Int)) (b := ((d.projs.length : Nat) : Int)) rfl rfl (zb (za ?_))))
 cases Q : decide (((k : Nat) : Int) < ((d.projs.length : Nat) : Int))
 have Q := fD Q
 have hkn : k = d.projs.length := by omega
 rw [hkn, List.take_of_length_le (Nat.le_of_eq cg)] at K
 refine zf rfl (zY (zR (za ?_)))
 obtain ⟨F, aO⟩ : ∃ n : Nat, ((n : Nat) : Int) = max 1 every := ⟨(max 1 every).toNat, by omega⟩
 rw [← aO] at K
 have am : 1 ≤ F ∧ F ≤ 9223372036854775807 := by omega
 have ch : Sep _ _ ((RowE (α := Ev) own 64 (Iz) ([] : List Ev)) :: _) _ := K.rowNil own 64
 have ci : Sep G W ((yG (Iz) ([] : List (List PR))) :: (RowE (α := Ev) own 64 (Iz) ([] : List Ev)) :: (zU vw (prs d [])) :: (RowE (α := Typ) own 84 vo d.types) :: (RowE (α := Prj) own 46 h d.projs) :: (ViewO y d [] []) :: (Blk e #[vo, h, Iw F, (Iz), Ix y 0, vw, (Iz)] 81) :: (Blk b2 (d.cells dd0 dd1).toArray 25) :: Rs) cD := ZipW.nil PtA 78 ch
 refine zt (by kernel_rfl) (fun _ => (st (mV (Ix e 0) (st (cL wY (QY  hKN (ci.s8_gdebcafh) (hd) ((Nat.zero_le _)) ((by simp)) (am.1)) ?_)))))
 rintro _ cE ⟨vpts254, rfl, L⟩
 have cj := L.r1
 have hr57s : _ * 24 ≤ _ := cj.2
 have ck := L.r2
 have hr58s : _ * 40 ≤ _ := ck.2
 have cl := L.r3
 have hr59s : _ * 96 ≤ _ := cl.2
 refine zb (za (R0 fun _ => st (mV (Ix e 0) (st (aS (Ix e 0) (zb (zm (zT Tryz.results12 (show _ = (Ix e 0 : Value) from rfl) ?_))))))))
 have cm : (ZD (([] : List Ev)).length F ([] : List (List PR)) (prs d [])) = yo d F [] := UV (d := d) (every := F)
 rw [cm] at L
 have cn : Sep G W ((BaseO e d F ([] : List Ev)) :: (Blk b2 (d.cells dd0 dd1).toArray 25) :: Rs) cE := BaseO.close (d := d) (every := F) (evs := ([] : List Ev)) am (L.s8_abcdgefh)
 refine ⟨e, F, rfl, ?_, (cn.s2_a)⟩
 exact aO
 have Q := tD Q
 refine zi rfl (zn (za (zp (za (R0 fun _ => ?_)))))
 have co : k < d.projs.length := bo
 refine st (ze (k := 5) (i := k) mR mT rfl aj.1 rfl co ?_)
 have cp : k < d.projs.length := bo
 obtain ⟨_, _, aY, rfl, aP⟩ := K.rowAtD (i := 2) (j := k) rfl cp
 refine st (zg (k := 5) tT mT rfl rfl aY (st (zI kA ?_)))
 intro w68 an cq
 have aQ := K.new cq
 refine stn (zA (v := .agg ((d.projs.getD k default).cells).toArray) (c' := ((d.projs.getD k default).cells).toArray) mT rfl rfl (aQ.b0) (yf ⟨rfl, rfl, rfl, rfl, rfl, trivial⟩) yqc rfl ?_)
 intro cF cr
 refine zb ?_
 obtain ⟨D, ao, ct⟩ := ZipW.open ((aQ.pt0 cr).mv1)
 have ap : Sep G W ((RowE (α := PtC) own 93 vw D) :: (Star (Zip xo D ((prs d []).take k))) :: (Blk an ((d.projs.getD k default).cells).toArray 46) :: (RowE (α := Typ) own 84 vo d.types) :: (RowE (α := Prj) own 46 h d.projs) :: (ViewO y d [] []) :: (Blk e #[vo, h, Iv (max 1 every), (Iz), Ix y 0, vw, (Iz)] 81) :: (Blk b2 (d.cells dd0 dd1).toArray 25) :: Rs) cF := ct
 have cu := ap.r0
 have hr77s : _ * 8 ≤ _ := cu.2
 have hsn9 : D.length = k := by rw [ao, List.length_take]; omega
 refine WD4 ((fun TT aR ab ac ad ae af aq => WF [fun vals B => Sep G W (aR :: ab :: ac :: ad :: ae :: af :: aq :: TT) B, fun vals B => ∃ (g : Nat), (vals 7 = (Ix g 0 : Value)) ∧ Sep G W ((ProjO g (d.projs.getD k default) []) :: aR :: ab :: ac :: ad :: ae :: af :: aq :: TT) B, fun vals B => ∃ (g : Nat) (t : Nat), (vals 7 = (Ix g 0 : Value)) ∧ (vals 8 = ((Iy t 1 1) : Value)) ∧ Sep G W ((Blk t #[Ix g 0] 93) :: (ProjO g (d.projs.getD k default) []) :: aR :: ab :: ac :: ad :: ae :: af :: aq :: TT) B, fun vals B => ∃ (g : Nat) (t : Nat) (m : Value), (vals 7 = (Ix g 0 : Value)) ∧ (vals 8 = ((Iy t 1 1) : Value)) ∧ (vals 9 = (m : Value)) ∧ Sep G W ((RowE (α := PtC) own 93 m (D ++ [(⟨g⟩ : PtC)])) :: (ProjO g (d.projs.getD k default) []) :: ab :: ac :: ad :: ae :: af :: aq :: TT) B, fun vals B => ∃ (g : Nat) (t : Nat) (m : Value), (vals 7 = (Ix g 0 : Value)) ∧ (vals 8 = ((Iy t 1 1) : Value)) ∧ (vals 9 = (m : Value)) ∧ Sep G W ((RowE (α := PtC) own 93 m (D ++ [(⟨g⟩ : PtC)])) :: (ProjO g (d.projs.getD k default) []) :: ab :: ac :: ad :: ae :: af :: (Blk e #[vo, h, Iv (max 1 every), (Iz), Ix y 0, m, (Iz)] 81) :: TT) B]) ((Blk b2 (d.cells dd0 dd1).toArray 25) :: Rs) (RowE (α := PtC) own 93 vw D) (Star (Zip xo D ((prs d []).take k))) (Blk an ((d.projs.getD k default).cells).toArray 46) (RowE (α := Typ) own 84 vo d.types) (RowE (α := Prj) own 46 h d.projs) (ViewO y d [] []) (Blk e #[vo, h, Iv (max 1 every), (Iz), Ix y 0, vw, (Iz)] 81)) (AF [Vl 0 (Ix e 0), Vl 1 (Ix e 0), Vl 2 (Ix e 0), Vl 3 (Ix e 4), Vl 4 (Ix e 5), Vl 5 (vw), Vl 6 (.agg ((d.projs.getD k default).cells).toArray), fun _ => True, fun _ => True, fun _ => True, Vl 10 (Ix e 0), Vl 11 (Ix e 4), Vl 12 (Ix e 5), fun _ => True]) [[], [], [1], [1, 2], [1, 2, 3], [1, 2, 3, 4], [], [6], [6, 7], [1, 2, 3, 4, 5, 6, 7, 8], (rg 10), (rg 11), (rg 12), (rg 13)] [7, 8, 9, 13] [(0, 3), (0, 2), (0, 2), (0, 2), (0, 2), (0, 2), (0, 0), (0, 0), (1, 1), (2, 2), (3, 3), (3, 3), (3, 3), (3, 3)] ap ⟨fun _ _ _ _ _ _ _ => obl rfl (mV (Ix e 0) dR), fun _ _ _ _ _ _ _ => obl rfl (mV (Ix e 0) dR), fun _ _ _ _ _ _ aZ => obl rfl (zl (b := e) (o := 0) (aZ 1 dc) dR), fun _ _ _ _ _ _ ba => obl rfl (xM (ba 2 dc) dR), fun _ _ _ _ _ _ bb => obl rfl (ZA (bb 3 dc) dR), ?_, ob1 0 fun _ _ (bc : Sep _ _ _ _) _ => obl rfl (zg (k := 5) tT mT rfl rfl (CellsAt.all (bc.b2)) dR), ?_, ?_, ?_, fun _ _ _ _ _ _ bd => obl rfl (zl (b := e) (o := 0) (bd 0 dc) dR), fun _ _ _ _ _ _ be => obl rfl (xM (be 10 dc) dR), fun _ _ _ _ _ _ bf => obl rfl (ZA (bf 11 dc) dR), ?_, trivial⟩ ?_
 refine fun M _ _ cv cw R S => ?_
 have hkk : M = 0 ∨ M = 1 ∨ M = 2 := by have h1 : 0 ≤ M := cv; have h2 : M ≤ 2 := cw; omega
 rcases hkk with rfl | rfl | rfl
 have bg : Sep _ _ _ _ := R
 exact obl rfl (lD vw oT (S 4 dc) (zd (bg.b6) rfl) dR)
 obtain ⟨g, z, bh⟩ := R
 exact obl rfl (lD vw oT (S 4 dc) (zd (bh.b7) rfl) dR)
 obtain ⟨g, t, z, A, bi⟩ := R
 exact obl rfl (lD vw oT (S 4 dc) (zd (bi.b8) rfl) dR)
 refine ob1 0 fun vals _ (bj : Sep _ _ _ _) bk => (obl rfl ((zL (f := 39) (vals := [.agg ((d.projs.getD k default).cells).toArray]) (cap := []) rfl (yN ⟨(bk 6 dc), trivial⟩) Tryz.call39 (zal (p := (d.projs.getD k default)) aP bj) ?_)))
 rintro _ w135 ⟨g, rfl, bl⟩
 exact fun T hv H => ⟨(Exists.intro g (And.intro hv bl)), trivial⟩
 refine ob1 1 fun _ _ bm _ => ?_
 obtain ⟨g, z, bn⟩ := bm
 refine obl rfl ((zD (k := 1) (parts' := [(0, Ix g 0)]) (c := #[Ix g 0]) sT kR lY dc (xH ⟨rfl, z, trivial⟩) kr ?_))
 intro w147 t bp
 exact fun T hv H => ⟨(Exists.intro g (Exists.intro t (And.intro ((H 7 dc).trans z) (And.intro hv (bn.new bp))))), trivial⟩
 refine ob1 2 fun _ _ bq br => ?_
 obtain ⟨g, t, z, A, ar⟩ := bq
 refine obl rfl ?_
 have aT := ar.b0
 refine (yv (src := own) (bytes := 8) (x1 := (⟨g⟩ : PtC)) ((ar.s10_cbdefghij).emp1) el76 (br 5 (by decide)) A aT (fun _ _ _ => (show _ from ⟨rfl, ⟨⟩⟩)) yqb rfl ?_)
 intro m w158 au
 have bs := au.r0
 have hr164s : _ * 8 ≤ _ := bs.2
 exact fun T hv H => ⟨(Exists.intro g (Exists.intro t (Exists.intro m (And.intro ((H 7 dc).trans z) (And.intro ((H 8 dc).trans A) (And.intro hv au)))))), trivial⟩
 refine ob1 3 fun _ _ bt bu => ?_
 obtain ⟨g, t, m, z, A, U, V⟩ := bt
 refine obl rfl ?_
 have av := V.r0
 have hr197s : _ * 8 ≤ _ := av.2
 refine (yq (v := m) (c := [vo, h, Iv (max 1 every), (Iz), Ix y 0, vw, (Iz)]) (c' := [vo, h, Iv (max 1 every), (Iz), Ix y 0, m, (Iz)]) mY (bu 12 dc) U (V.b7) av.1.one rfl rfl ?_)
 intro w195 bv
 exact fun T hv H => ⟨(Exists.intro g (Exists.intro t (Exists.intro m (And.intro ((H 7 dc).trans z) (And.intro ((H 8 dc).trans A) (And.intro ((H 9 dc).trans U) (V.pt7 bv))))))), trivial⟩
 intro vals cx bw hA274
 obtain ⟨g, t, m, z, A, U, bx⟩ := bw
 refine zW (kv := [(4, .pointer none), (5, Ix e 0), (73, h), (74, Iw d.projs.length), (75, Iw k), (76, .bool true), (77, Ix (sb h) (so h + k * 5)), (78, .agg ((d.projs.getD k default).cells).toArray), (11, Ix an 0)]) sEv (fun ρw272 => (zb ?_))
 have bz : Sep G W ((zU m (((prs d []).take k) ++ [(((d.projs.getD k default), []) : PR)])) :: (Blk an ((d.projs.getD k default).cells).toArray 46) :: (RowE (α := Typ) own 84 vo d.types) :: (RowE (α := Prj) own 46 h d.projs) :: (ViewO y d [] []) :: (Blk e #[vo, h, Iv (max 1 every), (Iz), Ix y 0, m, (Iz)] 81) :: (Blk b2 (d.cells dd0 dd1).toArray 25) :: Rs) cx := ZipW.snoc (s := (⟨g⟩ : PtC)) (c := (((d.projs.getD k default), []) : PR)) ao (bx.s9_acbdefghi)
 refine R0 fun _ => ?_
 have bA : InR ((k + 1 : Nat) : Int) := bo
 refine st (zO (r := ((k + 1 : Nat) : Int)) (k := .i64) (a := ((k : Nat) : Int)) (b := 1) rfl rfl (by rw [show (((k : Nat) : Int) + 1 : Int) = ((k + 1 : Nat) : Int) from bo]; exact zy bA) (st (mV (Iw (k + 1)) (zb ?_))))
 have aw := bz.s7_acdefg
 have cG : (prs d []).take (k + 1) = (((prs d []).take k) ++ [(((d.projs.getD k default), []) : PR)]) := by rw [List.take_getD (d := default) (by omega), Wu (by omega)]; rfl
 rw [← cG] at aw
 exact ⟨_, by omega, k + 1, m, _, rfl, sSf, by omega, aw⟩
 have P := tD P
 refine zi rfl (zn (za (zp (za (R0 fun _ => ?_)))))
 have bB : k < d.types.length := bo
 refine st (ze (k := 1) (i := k) tR nR rfl hdd0.sl rfl bB ?_)
 have ax : k < d.types.length := bo
 obtain ⟨aU, E, hoke281⟩ := hdd0.typD ax
 have hsm283 : ((d.types.getD k default).fields).length * 48 ≤ 140737488355328 := E.small
 have aV := C.cells aU (hdd0.foot (ne_of_lt ax))
 refine st (zg (k := 1) Tryz.isAgg84 nR rfl rfl aV (st (zI pA ?_)))
 intro w287 ah bC
 have ay := C.new bC
 refine stn (zA (v := .agg ((d.types.getD k default).cells (zC W (sb dd0) (so dd0 + k * 1 + 0))).toArray) (c' := ((d.types.getD k default).cells (zC W (sb dd0) (so dd0 + k * 1 + 0))).toArray) nR rfl rfl (ay.b0) (yf ⟨E.sl.one, trivial⟩) yqc rfl ?_)
 intro w289 bD
 have az := ay.pt0 bD
 refine zb (za (R0 fun _ => st (yR rfl (st (lD (zC W (sb dd0) (so dd0 + k * 1 + 0)) Tryz.isAgg82 rfl (zd (az.b0) rfl) (st (cL Tryz.call36 (Xt (l := (d.types.getD k default).fields) (vl := (zC W (sb dd0) (so dd0 + k * 1 + 0))) E az) ?_)))))))
 rintro x w293 ⟨_, rfl, aA⟩
 have aB := aA.r0
 have hr295s : _ * 48 ≤ _ := aB.2
 refine st (aS x (zb (za (za (R0 fun _ => st (mV x (st (zG (n := ((d.types.getD k default).fields).length) uR rfl aB.1 (st (mV (Iv 0) (zb (zp ?_))))))))))))
 have bE := aA.toMix
 refine zZ (fun mq σ B => ∃ (q : Nat) (ρ : Env), mq = ((d.types.getD k default).fields).length - q ∧ σ = ya ρ [(2, Ix b2 0), (4, .pointer none), (5, Ix e 0), (7, Ix ah 0), (8, x), (21, dd0), (22, Iw d.types.length), (23, Iw k), (31, Iw (((d.types.getD k default).fields).length)), (32, Iw q)] ∧ (q ≤ ((d.types.getD k default).fields).length) ∧ Sep G W ((RowE (α := Bool × Fld) (mix (α := Fld) G W) 88 x (xG q ((d.types.getD k default).fields))) :: (Blk ah ((d.types.getD k default).cells (zC W (sb dd0) (so dd0 + k * 1 + 0))).toArray 84) :: (RowE (α := Typ) own 84 vo (d.types.take k)) :: (Blk e #[vo, h, Iv (max 1 every), (Iz), .pointer none, (Iz), (Iz)] 81) :: (RowE (α := Prj) own 46 h d.projs) :: (Blk b2 (d.cells dd0 dd1).toArray 25) :: Rs) B) ⟨0, _, rfl, sSf, Nat.zero_le _, bE⟩ ?_
 rintro m298 σ299 cy ⟨q, ρl3, rfl, rfl, hkq, I⟩
 have X := I.r0
 rw [xd] at X
 refine za (R0 fun _ => st (zJ (k := .i64) (a := ((q : Nat) : Int)) (b := ((((d.types.getD k default).fields).length : Nat) : Int)) rfl rfl (zb (za ?_))))
 cases J : decide (((q : Nat) : Int) < ((((d.types.getD k default).fields).length : Nat) : Int))
 have J := fD J
 have Y : Sep G W ((RowE (α := Fld) own 88 x ((d.types.getD k default).fields)) :: (Blk ah ((d.types.getD k default).cells (zC W (sb dd0) (so dd0 + k * 1 + 0))).toArray 84) :: (RowE (α := Typ) own 84 vo (d.types.take k)) :: (Blk e #[vo, h, Iv (max 1 every), (Iz), .pointer none, (Iz), (Iz)] 81) :: (RowE (α := Prj) own 46 h d.projs) :: (Blk b2 (d.cells dd0 dd1).toArray 25) :: Rs) cy := I.ofMix om
 have aC := Y.r0
 have hr304s : _ * 48 ≤ _ := aC.2
 refine zf rfl (zY (zR (R0 fun _ => st (mV (Ix e 0) (st (mV (Ix e 0) (st (zl (b := e) (o := 0) rfl (st (Yz rfl (st (yx rfl (st (lD vo nA rfl (zd (Y.b3) rfl) (st (mV x ?_))))))))))))))))
 have bF : Typ.Ok (d.types.getD k default) := ⟨⟩
 refine st (zQ (parts' := [(0, x)]) (v := .agg ((d.types.getD k default).cells x).toArray) rfl (by obtain ⟨_, _, bG, _⟩ := aC.1; rw [show x = Value.slice _ _ _ from bG]; simp [Instr.build, Instr.fill, go_sem, Dcl.cells, Typ.cells]) (st (zD (k := 1) (parts' := [(0, .agg ((d.types.getD k default).cells x).toArray)]) (c := ((d.types.getD k default).cells x).toArray) tR nR pA (by decide) rfl (by kernel_rfl) ?_)))
 intro w309 b308 bH
 have aD := Y.new bH
 have aW := aD.b0
 refine st (yv (src := own) (bytes := 24) (x1 := (d.types.getD k default)) (aD.s7_dbcefg) el22 rfl rfl aW (fun _ _ hN => ⟨_, rfl, RowE.soft hN, bF⟩) yqb rfl ?_)
 intro ai w311 Z
 have aE := Z.r0
 have hr316s : _ * 24 ≤ _ := aE.2
 refine st (zl (b := e) (o := 0) rfl (st (Yz rfl (st (yx rfl (stn (yq (v := ai) (c := [vo, h, Iv (max 1 every), (Iz), .pointer none, (Iz), (Iz)]) (c' := [ai, h, Iv (max 1 every), (Iz), .pointer none, (Iz), (Iz)]) Tryz.sizeOf22 rfl rfl (Z.b2) aE.1.one rfl rfl ?_)))))))
 intro w317 bI
 refine zb (R0 fun _ => ?_)
 have bJ : InR ((k + 1 : Nat) : Int) := bo
 refine st (zO (r := ((k + 1 : Nat) : Int)) (k := .i64) (a := ((k : Nat) : Int)) (b := 1) rfl rfl (by rw [show (((k : Nat) : Int) + 1 : Int) = ((k + 1 : Nat) : Int) from bo]; exact zy bJ) (st (mV (Iw (k + 1)) (zb ?_))))
 have aF := (Z.pt2 bI).s5_acde
 have bK : (d.types.take (k + 1)) = (d.types.take k) ++ [(d.types.getD k default)] := (List.take_getD om)
 rw [← bK] at aF
 exact ⟨_, by omega, k + 1, ai, _, rfl, sSf, by omega, aF⟩
 have J := tD J
 refine zi rfl (zn (za (zp (za (R0 fun _ => st (mV (Iw q) (st (aS (Iw q) (zb (R0 fun _ => st (mV x (st (mV (Iw q) (st (mV x (st (mV (Iw q) ?_)))))))))))))))))
 have bL : q < ((d.types.getD k default).fields).length := bo
 refine st (ze (k := 4) (i := q) uR qA rfl X.1 rfl bL (st (yM rfl ?_)))
 have aG : q < ((d.types.getD k default).fields).length := bo
 obtain ⟨_, ag, O, rfl, N, aK⟩ := I.mixAt (i := 0) (j := q) rfl (Nat.le_refl _) aG
 rw [← zw default aG] at ag N aK
 refine st (lD O Tryz.isAgg86 rfl (ag.get (j := 3) rfl) (st (cL Tryz.call37 (YB (l := (((d.types.getD k default).fields).getD q default).moves) (vl := O) N I) ?_)))
 rintro aX w327 ⟨_, rfl, aH⟩
 have aa := aH.r0
 have hr329s : _ * 32 ≤ _ := aa.2
 have bM : q < ((d.types.getD k default).fields).length := bo
 refine st (ze (k := 4) (i := q) uR qA rfl X.1 rfl bM (st (yM rfl ?_)))
 have aI : q < ((d.types.getD k default).fields).length := bo
 refine stn (ZG (α := Fld) (j := q) (o := 3) (u := aX) (us := [aX]) (aH.mv1) Tryz.sizeOf86 aI rfl rfl (congrArg Array.toList (yL aa.1.one)) (Nat.le_of_ble_eq_true rfl) (yf ⟨aa.1.one, trivial⟩) (fun w f cs0 hr hN => (by obtain ⟨d, rfl, hd, hok⟩ := hr; exact ⟨_, rfl, (by rw [← zw default aI]; exact RowE.soft hN), hok⟩)) ?_)
 intro w331 bN
 refine zb (R0 fun _ => ?_)
 have bO : InR ((q + 1 : Nat) : Int) := bo
 refine st (zO (r := ((q + 1 : Nat) : Int)) (k := .i64) (a := ((q : Nat) : Int)) (b := 1) rfl rfl (by rw [show (((q : Nat) : Int) + 1 : Int) = ((q + 1 : Nat) : Int) from bo]; exact zy bO) (st (mV (Iw (q + 1)) (zb ?_))))
 exact ⟨_, by omega, q + 1, _, rfl, sSf, by omega, bN⟩

theorem zbc {G : Nat → Prop} {W w : World} {Rs : List HP} {b : Nat} {d : Dcl} {every : Nat} {evs : List Ev} {n : Nat} (hn : n < evs.length) (hKN : RdS W G (.slice (some ⟨0, 0, none⟩) 6 6) kindsL) (hS0 : Sep G W ((BaseO b d every evs) :: Rs) w) (hd : DclOk d) (hfew : evs.length ≤ 1000000) : Ret Tryz.prog 41 [.pointer (some ⟨b, 0, none⟩), .int .i64 ((n : Nat) : Int)] w (fun r w' => r = (.tuple #[] : Value) ∧ Sep G W ((BaseO b d every (evs.take (n / every * every))) :: Rs) w') := by
 have hKNs : _ * 8 ≤ _ := hKN.small
 refine zk (args := [Ix b 0, Iw n]) Tryz.func41 rfl rfl ?_
 obtain ⟨Y, p, q, aI, h, t, u, aT⟩ := BaseO.open hS0
 let aV := ViewO h d (zu d evs) (zu d evs)
 have D : Sep G W ((Blk b #[p, q, Iw every, aI, Ix h 0, t, u] 81) :: (RowE (α := Typ) own 84 p d.types) :: (RowE (α := Prj) own 46 q d.projs) :: (RowE (α := Ev) own 64 aI evs) :: aV :: (zU t (prs d evs)) :: (yG u (yo d every evs)) :: Rs) w := aT
 have aU := D.r1
 have hr9s : _ * 24 ≤ _ := aU.2
 have aL := D.r2
 have hr10s : _ * 40 ≤ _ := aL.2
 have aM := D.r3
 have hr11s : _ * 96 ≤ _ := aM.2
 refine za ?_
 have hdz9 : (0 : Int) ≤ ((n : Nat) : Int) / ((every : Nat) : Int) := Int.ediv_nonneg om om
 have hdv9 : n / every ≤ n := Nat.div_le_self ..
 have hdm9 : n / every * every ≤ n := Nat.div_mul_le_self ..
 have aN := Yv d every evs
 have hdd9 : n / every ≤ evs.length / every := Nat.div_le_div_right om
 refine zt (by kernel_rfl) (fun _ => (st (mV (Iw n) (st (mV (Ix b 0) (st (zl (b := b) (o := 0) rfl (st (Ud rfl (st (lD (Iw every) lT rfl (zd (D.b0) rfl) (st (KM (r := ((n / every : Nat) : Int)) rfl rfl (by omega) (by rw [show Int.tdiv (((n : Nat) : Int)) (((every : Nat) : Int)) = ((n / every : Nat) : Int) from (Int.ofNat_tdiv _ _).symm]; exact zy (by omega)) (st (aS (Iw (n / every)) (zb (za ?_)))))))))))))))))
 obtain ⟨l, e, rfl, hcap14⟩ := D.rowSome (i := 3) rfl om
 let aX := Iy l evs.length e
 let aP := Iy l ((n / every) * every) e
 have aO : Sep G W ((Blk b #[p, q, Iw every, aX, Ix h 0, t, u] 81) :: (RowE (α := Typ) own 84 p d.types) :: (RowE (α := Prj) own 46 q d.projs) :: (RowE (α := Ev) own 64 aX evs) :: aV :: (zU t (prs d evs)) :: (yG u (yo d every evs)) :: Rs) w := D
 refine WD4 ((fun TT => WF [fun vals wq => Sep G W ((Blk b #[p, q, Iw every, aX, Ix h 0, t, u] 81) :: TT) wq, fun vals wq => Sep G W ((Blk b #[p, q, Iw every, aP, Ix h 0, t, u] 81) :: TT) wq]) ((RowE (α := Typ) own 84 p d.types) :: (RowE (α := Prj) own 46 q d.projs) :: (RowE (α := Ev) own 64 aX evs) :: aV :: (zU t (prs d evs)) :: (yG u (yo d every evs)) :: Rs)) (AF [Vl 0 (Ix b 0), Vl 1 (Ix b 0), Vl 2 (Ix b 0), Vl 3 (Ix b 3), Vl 4 (aX), Vl 5 (Iw (n / every)), Vl 6 (Ix b 0), Vl 7 (Ix b 0), Vl 8 (Ix b 2), Vl 9 (Iw every), Vl 10 (Iw ((n / every) * every)), Vl 11 (aP), Vl 12 (Ix b 0), Vl 13 (Ix b 3), fun _ => True]) [[], [], [1], [1, 2], [1, 2, 3], [], [], [6], [6, 7], [6, 7, 8], [5, 6, 7, 8, 9], [1, 2, 3, 4, 5, 6, 7, 8, 9, 10], (rg 12), (rg 13), (rg 14)] [14] [(0, 0), (0, 0), (0, 0), (0, 0), (0, 0), (0, 0), (0, 0), (0, 0), (0, 0), (0, 0), (0, 0), (0, 0), (0, 0), (0, 0), (0, 0)] aO ⟨fun _ _ _ _ _ _ _ => obl rfl (mV (Ix b 0) dR), fun _ _ _ _ _ _ _ => obl rfl (mV (Ix b 0) dR), fun _ _ _ _ _ _ aa => obl rfl (zl (b := b) (o := 0) (aa 1 dc) dR), fun _ _ _ _ _ _ ab => obl rfl (xW (ab 2 dc) dR), ob1 0 fun _ _ (ac : Sep _ _ _ _) ad => obl rfl (lD aX pT (ad 3 dc) (zd (ac.b0) rfl) dR), fun _ _ _ _ _ _ _ => obl rfl (mV (Iw (n / every)) dR), fun _ _ _ _ _ _ _ => obl rfl (mV (Ix b 0) dR), fun _ _ _ _ _ _ ae => obl rfl (zl (b := b) (o := 0) (ae 6 dc) dR), fun _ _ _ _ _ _ af => obl rfl (Ud (af 7 dc) dR), ob1 0 fun _ _ (ag : Sep _ _ _ _) ah => obl rfl (lD (Iw every) lT (ah 8 dc) (zd (ag.b0) rfl) dR), ?_, ob1 0 fun _ _ _ O => obl rfl (Xr (k := 10) (g := l) (n := evs.length) (c := e) (j := ((n / every) * every)) rR nT (O 4 dc) (O 10 dc) om om dR), fun _ _ _ _ _ _ ai => obl rfl (zl (b := b) (o := 0) (ai 0 dc) dR), fun _ _ _ _ _ _ aj => obl rfl (xW (aj 12 dc) dR), ?_, trivial⟩ ?_
 refine ob1 0 fun _ _ _ P => (obl rfl ?_)
 have ak : InR (((n / every) * every : Nat) : Int) := bo
 exact KD (r := (((n / every) * every : Nat) : Int)) (k := .i64) (a := ((n / every : Nat) : Int)) (b := ((every : Nat) : Int)) (P 5 (by decide)) (P 9 (by decide)) (by rw [show (((n / every : Nat) : Int) * ((every : Nat) : Int) : Int) = (((n / every) * every : Nat) : Int) from bo]; exact zy ak) dR
 refine ob1 0 fun _ _ (Q : Sep _ _ _ _) R => (obl rfl ((yq (v := aP) (c := [p, q, Iw every, aX, Ix h 0, t, u]) (c' := [p, q, Iw every, aP, Ix h 0, t, u]) vY (R 13 dc) (R 11 dc) (Q.b0) rfl rfl rfl ?_)))
 intro w126 al
 exact fun vals' hv hv' => ⟨(Q.pt0 al), trivial⟩
 intro vals N am hA232
 have an : Sep _ _ _ _ := am
 refine zW (kv := [(0, Ix b 0), (1, Iw n), (5, Iw n), (6, Ix b 0), (7, Ix b 0), (8, Ix b 2), (9, Iw every), (10, Iw (n / every)), (4, Iw (n / every))]) sEv (fun ρw230 => (zb (za ?_)))
 have S : Sep G W ((RowE (α := Ev) own 64 (Iy l ((n / every) * every) e) (evs.take (n / every * every))) :: (Blk b #[p, q, Iw every, (Iy l ((n / every) * every) e), Ix h 0, t, u] 81) :: (RowE (α := Typ) own 84 p d.types) :: (RowE (α := Prj) own 46 q d.projs) :: (ViewO h d (zu d evs) (zu d evs)) :: (zU t (prs d evs)) :: (yG u (yo d every evs)) :: Rs) N := (an.mv3).rowCut rfl om
 have ao := S.r0
 have hr236s : _ * 96 ≤ _ := ao.2
 obtain ⟨x, L, ap⟩ := ZipW.open (S.mv6)
 have F : Sep G W ((RowE (α := PtV) own 78 u x) :: (Star (Zip PtA x (yo d every evs))) :: (RowE (α := Ev) own 64 aP (evs.take (n / every * every))) :: (Blk b #[p, q, Iw every, aP, Ix h 0, t, u] 81) :: (RowE (α := Typ) own 84 p d.types) :: (RowE (α := Prj) own 46 q d.projs) :: aV :: (zU t (prs d evs)) :: Rs) N := ap
 have aq := F.r0
 have hr241s : _ * 32 ≤ _ := aq.2
 have hsl9 : x.length = evs.length / every + 1 := by rw [L, aN]
 obtain ⟨m, f, rfl, hcap244⟩ := F.rowSome (i := 0) rfl om
 let aW := Iy m (n / every + 1) f
 let aY := Blk b #[p, q, Iw every, aP, Ix h 0, t, aW] 81
 have T : Sep G W ((RowE (α := PtV) own 78 (Iy m x.length f) x) :: (Star (Zip PtA x (yo d every evs))) :: (RowE (α := Ev) own 64 aP (evs.take (n / every * every))) :: (Blk b #[p, q, Iw every, aP, Ix h 0, t, (Iy m x.length f)] 81) :: (RowE (α := Typ) own 84 p d.types) :: (RowE (α := Prj) own 46 q d.projs) :: aV :: (zU t (prs d evs)) :: Rs) N := F
 refine R0 fun _ => st (mV (Ix b 0) (st (zl (b := b) (o := 0) rfl (st (Yh rfl (st (lD (Iy m x.length f) rT rfl (zd (T.b3) rfl) (st (mV (Iw (n / every)) ?_)))))))))
 have ar : InR ((n / every + 1 : Nat) : Int) := bo
 refine st (zO (r := ((n / every + 1 : Nat) : Int)) (k := .i64) (a := ((n / every : Nat) : Int)) (b := 1) rfl rfl (by rw [show (((n / every : Nat) : Int) + 1 : Int) = ((n / every + 1 : Nat) : Int) from bo]; exact zy ar) (st (WL (k := 2) (g := m) (n := x.length) (c := f) (i := (n / every + 1)) qT kT rfl rfl (by omega) (by omega) (stn (Qv (α := PtV) (g := m) (n := x.length) (c := f) (i := (n / every + 1)) qT vT rfl (yf ⟨rfl, rfl, trivial⟩) T rfl (by omega) rfl ?_)))))
 intro w247 E
 have au := E.r0
 have hr249s : _ * 32 ≤ _ := au.2
 refine zb (za (R0 fun _ => st (mV (Ix b 0) (st (mV (Ix b 0) (st (zl (b := b) (o := 0) rfl (st (Yh rfl (st (lD (Iy m x.length f) rT rfl (zd (E.b3) rfl) (st (mV (Iw (n / every)) ?_)))))))))))))
 have av : InR ((n / every + 1 : Nat) : Int) := bo
 refine st (zO (r := ((n / every + 1 : Nat) : Int)) (k := .i64) (a := ((n / every : Nat) : Int)) (b := 1) rfl rfl (by rw [show (((n / every : Nat) : Int) + 1 : Int) = ((n / every + 1 : Nat) : Int) from bo]; exact zy av) (st (Xr (k := 2) (g := m) (n := x.length) (c := f) (j := (n / every + 1)) qT kT rfl rfl (by omega) (by omega) (st (zl (b := b) (o := 0) rfl (st (Yh rfl (stn (yq (v := (Iy m (n / every + 1) f)) (c := [p, q, Iw every, (Iy l ((n / every) * every) e), Ix h 0, t, (Iy m x.length f)]) (c' := [p, q, Iw every, (Iy l ((n / every) * every) e), Ix h 0, t, (Iy m (n / every + 1) f)]) pY rfl rfl (E.b3) rfl rfl rfl ?_)))))))))
 intro I aw
 refine zb ?_
 have U : Sep G W ((yG aW ((yo d every evs).take (n / every + 1))) :: (RowE (α := Ev) own 64 aP (evs.take (n / every * every))) :: aY :: (RowE (α := Typ) own 84 p d.types) :: (RowE (α := Prj) own 46 q d.projs) :: aV :: (zU t (prs d evs)) :: Rs) I := ZipW.cut L (E.pt3 aw)
 have aQ : (yo d every evs).take (n / every + 1) = (yo d every (evs.take (n / every * every))) := KS Y.1 om
 rw [aQ] at U
 have aJ : (evs.take (n / every * every)).length = n / every * every := by rw [List.length_take]; omega
 have Z : (evs.take (n / every * every)).length / every = n / every := by rw [aJ, Nat.mul_div_cancel _ (by omega)]
 have aR : (yo d every (evs.take (n / every * every))).length = n / every + 1 := by rw [Yv, Z]
 obtain ⟨s, C, ax⟩ := ZipW.open U
 have M : Sep G W ((RowE (α := PtV) own 78 aW s) :: (Star (Zip PtA s (yo d every (evs.take (n / every * every))))) :: (RowE (α := Ev) own 64 aP (evs.take (n / every * every))) :: aY :: (RowE (α := Typ) own 84 p d.types) :: (RowE (α := Prj) own 46 q d.projs) :: aV :: (zU t (prs d evs)) :: Rs) I := ax
 have V := M.r0
 have hr258s : _ * 32 ≤ _ := V.2
 have hsl8 : s.length = n / every + 1 := by rw [C, aR]
 have X : Sep G W ((zU ((s.getD (n / every) default).v) ((yo d every (evs.take (n / every * every))).getD (n / every) default)) :: (Star ((Zip PtA s (yo d every (evs.take (n / every * every)))).set (n / every) Emp)) :: (RowE (α := PtV) own 78 (Iy m (n / every + 1) f) s) :: (RowE (α := Ev) own 64 (Iy l ((n / every) * every) e) (evs.take (n / every * every))) :: (Blk b #[p, q, Iw every, (Iy l ((n / every) * every) e), Ix h 0, t, (Iy m (n / every + 1) f)] 81) :: (RowE (α := Typ) own 84 p d.types) :: (RowE (α := Prj) own 46 q d.projs) :: (ViewO h d (zu d evs) (zu d evs)) :: (zU t (prs d evs)) :: Rs) I := ZipW.take C om (M.mv1)
 have aK : (yo d every (evs.take (n / every * every))).getD (n / every) default = prs d (evs.take (n / every * every)) := by rw [JI (by rw [Z]; omega), List.take_of_length_le (by rw [aJ]; exact Nat.le_refl _)]
 rw [aK] at X
 have J : Sep G W ((zU ((s.getD (n / every) default).v) (prs d (evs.take (n / every * every)))) :: (Star ((Zip PtA s (yo d every (evs.take (n / every * every)))).set (n / every) Emp)) :: (RowE (α := PtV) own 78 aW s) :: (RowE (α := Ev) own 64 aP (evs.take (n / every * every))) :: aY :: (RowE (α := Typ) own 84 p d.types) :: (RowE (α := Prj) own 46 q d.projs) :: aV :: (zU t (prs d evs)) :: Rs) I := X
 refine R0 fun _ => st (mV (Ix b 0) (st (mV (Ix b 0) (st (mV (Ix b 0) (st (zl (b := b) (o := 0) rfl (st (Yh rfl (st (lD aW rT rfl (zd (J.b4) rfl) (st (mV (Iw (n / every)) ?_)))))))))))))
 have ay : n / every < s.length := bo
 refine st (ze (k := 2) (i := n / every) qT kT rfl V.1 rfl ay ?_)
 have az : n / every < s.length := bo
 obtain ⟨_, _, H, rfl, hpke263⟩ := J.rowAtD (i := 2) (j := n / every) rfl az
 have H : CellsAt _ _ _ [Ix ((s.getD (n / every) default).b) 0, ((s.getD (n / every) default).v)] := H
 refine st (zg (k := 2) wT kT rfl rfl H (st (cL oY (KL  hKN (J.s9_efgdabchi) (hd) ((by rw [List.length_take]; omega))) ?_)))
 rintro _ w268 ⟨y, z, rfl, B⟩
 have aA := B.r1
 have hr270s : _ * 24 ≤ _ := aA.2
 have aB := B.r2
 have hr271s : _ * 40 ≤ _ := aB.2
 have aC := B.r3
 have hr272s : _ * 96 ≤ _ := aC.2
 refine st (zl (b := b) (o := 0) rfl (st (xM rfl (stn (zA (v := .agg #[Ix y 0, z]) (c' := #[p, q, Iw every, aP, Ix y 0, z, aW]) kT rfl rfl (B.b0) (yf ⟨rfl, (B.zipSl (A := xo) (i := 6) rfl).one, trivial⟩) yqc rfl ?_)))))
 intro K aD
 refine zb (YQ Tryz.results41 ?_)
 have aE : Sep G W ((zU ((s.getD (n / every) default).v) ((yo d every (evs.take (n / every * every))).getD (n / every) default)) :: (Star ((Zip PtA s (yo d every (evs.take (n / every * every)))).set (n / every) Emp)) :: (Blk b #[p, q, Iw every, aP, Ix y 0, z, aW] 81) :: (RowE (α := Typ) own 84 p d.types) :: (RowE (α := Prj) own 46 q d.projs) :: (RowE (α := Ev) own 64 aP (evs.take (n / every * every))) :: (ViewO y d (zu d (evs.take (n / every * every))) (zu d (evs.take (n / every * every)))) :: (zU z (prs d (evs.take (n / every * every)))) :: (RowE (α := PtV) own 78 aW s) :: aV :: (zU t (prs d evs)) :: Rs) K := (by rw [aK]; exact ((B.pt0 aD).s11_ehabcdfgijk))
 have aF : Sep G W ((Star (Zip PtA s (yo d every (evs.take (n / every * every))))) :: (Blk b #[p, q, Iw every, (Iy l ((n / every) * every) e), Ix y 0, z, (Iy m (n / every + 1) f)] 81) :: (RowE (α := Typ) own 84 p d.types) :: (RowE (α := Prj) own 46 q d.projs) :: (RowE (α := Ev) own 64 (Iy l ((n / every) * every) e) (evs.take (n / every * every))) :: (ViewO y d (zu d (evs.take (n / every * every))) (zu d (evs.take (n / every * every)))) :: (zU z (prs d (evs.take (n / every * every)))) :: (RowE (α := PtV) own 78 (Iy m (n / every + 1) f) s) :: (ViewO h d (zu d evs) (zu d evs)) :: (zU t (prs d evs)) :: Rs) K := ZipW.back (i := (n / every)) C om aE
 have aG : Sep G W ((yG aW (yo d every (evs.take (n / every * every)))) :: (Blk b #[p, q, Iw every, aP, Ix y 0, z, aW] 81) :: (RowE (α := Typ) own 84 p d.types) :: (RowE (α := Prj) own 46 q d.projs) :: (RowE (α := Ev) own 64 aP (evs.take (n / every * every))) :: (ViewO y d (zu d (evs.take (n / every * every))) (zu d (evs.take (n / every * every)))) :: (zU z (prs d (evs.take (n / every * every)))) :: aV :: (zU t (prs d evs)) :: Rs) K := ZipW.mk C (aF.mv7)
 have aH : Sep G W ((BaseO b d every (evs.take (n / every * every))) :: aV :: (zU t (prs d evs)) :: Rs) K := BaseO.close (d := d) (every := every) (evs := (evs.take (n / every * every))) Y (aG.s9_bcdefgahi)
 refine ⟨rfl, (aH.s3_a)⟩

end Go.Proofs.YtojlbibionhdjaaGreatDoor
