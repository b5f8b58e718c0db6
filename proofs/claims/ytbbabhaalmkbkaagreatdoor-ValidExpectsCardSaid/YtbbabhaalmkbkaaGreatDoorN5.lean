import Derived.Test.YtbbabhaalmkbkaaGreatDoorN1
import Derived.Test.YtbbabhaalmkbkaaGreatDoorRows
import Derived.Test.YtbbabhaalmkbkaaGreatDoorN4
import Derived.OpenShut
import Derived.Stop.Joined
import Derived.LaidMore
import Derived.MakeChecks
import Derived.Test.YtbbabhaalmkbkaaGreatDoorN2
set_option linter.unusedSimpArgs false
set_option linter.unusedVariables false
set_option linter.unusedSectionVars false
set_option linter.deprecated false
set_option maxRecDepth 100000
open Go.Proofs.Tryz renaming isAgg3 → kT, underlying41 → lT, sizeOf166 → mT, underlying28 → nT, sizeOf41 → oT, isAgg41 → pT, isAgg166 → qT, underlying51 → rT, underlying115 → sT, isAgg45 → tT, underlying136 → uT, underlying110 → vT, underlying22 → wT, sizeOf25 → kR, underlying3 → lR, underlying23 → mR, underlying25 → nR, results80 → oR, sizeOf110 → pR, sizeOf53 → qR, underlying39 → rR, isAgg39 → sR, results81 → tR, results60 → uR, underlying45 → vR, sizeOf47 → wR, isAgg25 → kY, underlying53 → lY, underlying26 → mY, results53 → nY, isAgg38 → oY, sizeOf38 → pY, call100 → qY, zeroValue166 → rY, call44 → sY, sizeOf39 → tY, results86 → uY, results87 → vY, isAgg47 → wY, sizeOf99 → kA, zeroValue25 → lA, isAgg22 → mA, zeroValue53 → nA
namespace Go.Proofs.YtbbabhaalmkbkaaGreatDoor
open Go.ChangeShapes Go.WideShapes Go.ChangeAt Go.RowKit

theorem opI : yS Tryz.prog 3 Int := Qy lR
theorem opB : yS Tryz.prog 4 Bool := Uq Tryz.underlying4
theorem opId : yS Tryz.prog 38 (Int × Int) := Uz Tryz.underlying38 (by kernel_rfl) rfl rfl rfl rfl (by kernel_rfl) (by kernel_rfl) opI opI
theorem zaF {α : Type} {l : List α} (h : l.length = 4) : ∃ a0 a1 a2 a3, l = [a0, a1, a2, a3] := by
  match l, h with
  | [a0, a1, a2, a3], _ => exact ⟨a0, a1, a2, a3, rfl⟩
theorem op_Mv : yS Tryz.prog 136 Mv := by
  intro H enc w fuel cs x h hx
  obtain ⟨_, _, _, _, hl, _⟩ := DataW.trod_struct uT h
  obtain ⟨c0, c1, c2, c3, rfl⟩ := zaF (hl.trans (by kernel_rfl))
  obtain ⟨m0, e0, r0⟩ := zD (α := Int) (i := 0) uT h hx rfl (by kernel_rfl) opI
  obtain rfl : c0 = .int .i64 m0 := List.cons.inj e0 |>.1
  obtain ⟨m1, e1, r1⟩ := zD (α := Int) (i := 1) uT h hx rfl (by kernel_rfl) opI
  obtain rfl : c1 = .int .i64 m1 := List.cons.inj e1 |>.1
  obtain ⟨m2, e2, r2⟩ := zD (α := Int) (i := 2) uT h hx rfl (by kernel_rfl) opI
  obtain rfl : c2 = .int .i64 m2 := List.cons.inj e2 |>.1
  obtain ⟨m3, e3, r3⟩ := zD (α := Int) (i := 3) uT h hx rfl (by kernel_rfl) opI
  obtain rfl : c3 = .int .i64 m3 := List.cons.inj e3 |>.1
  exact ⟨⟨m0, m1, m2, m3⟩, rfl, ⟨r0, r1, r2, r3⟩⟩
theorem zbs : yS Tryz.prog 108 (List Mv) := xq Tryz.underlying108 op_Mv (by kernel_rfl) (by kernel_rfl)
theorem zbf : yS Tryz.prog 110 Fld := by
  intro H enc w fuel cs x h hx
  obtain ⟨_, _, _, _, hl, _⟩ := DataW.trod_struct vT h
  obtain ⟨c0, c1, c2, c3, rfl⟩ := zaF (hl.trans (by kernel_rfl))
  obtain ⟨m0, e0, r0⟩ := zD (α := Int) (i := 0) vT h hx rfl (by kernel_rfl) opI
  obtain rfl : c0 = .int .i64 m0 := List.cons.inj e0 |>.1
  obtain ⟨m1, e1, r1⟩ := zD (α := Int) (i := 1) vT h hx rfl (by kernel_rfl) opI
  obtain rfl : c1 = .int .i64 m1 := List.cons.inj e1 |>.1
  obtain ⟨m2, e2⟩ := zD (α := Bool) (i := 2) vT h hx rfl (by kernel_rfl) opB
  obtain rfl : c2 = .bool m2 := List.cons.inj e2 |>.1
  obtain ⟨l3, v3, e3, r3⟩ := zD (α := List Mv) (i := 3) vT h hx rfl (by kernel_rfl) zbs
  obtain rfl : c3 = v3 := List.cons.inj e3 |>.1
  exact ⟨⟨m0, m1, m2, l3⟩, c3, rfl, r3, ⟨r0, r1⟩⟩
theorem JN : yS Tryz.prog 51 (List Fld) := xq rT zbf (by kernel_rfl) (by kernel_rfl)
theorem lst_1 {α : Type} {l : List α} (h : l.length = 1) : ∃ a0, l = [a0] := by
  match l, h with
  | [a0], _ => exact ⟨a0, rfl⟩
theorem zbh : yS Tryz.prog 53 Typ := by
  intro H enc w fuel cs x h hx
  obtain ⟨_, _, _, _, hl, _⟩ := DataW.trod_struct lY h
  obtain ⟨c0, rfl⟩ := lst_1 (hl.trans (by kernel_rfl))
  obtain ⟨l0, v0, e0, r0⟩ := zD (α := List Fld) (i := 0) lY h hx rfl (by kernel_rfl) JN
  obtain rfl : c0 = v0 := List.cons.inj e0 |>.1
  exact ⟨⟨l0⟩, c0, rfl, r0, ⟨⟩⟩
theorem lst_5 {α : Type} {l : List α} (h : l.length = 5) : ∃ a0 a1 a2 a3 a4, l = [a0, a1, a2, a3, a4] := by
  match l, h with
  | [a0, a1, a2, a3, a4], _ => exact ⟨a0, a1, a2, a3, a4, rfl⟩
theorem zbq : yS Tryz.prog 115 Prj := by
  intro H enc w fuel cs x h hx
  obtain ⟨_, _, _, _, hl, _⟩ := DataW.trod_struct sT h
  obtain ⟨c0, c1, c2, c3, c4, rfl⟩ := lst_5 (hl.trans (by kernel_rfl))
  obtain ⟨m0, e0, r0⟩ := zD (α := Int) (i := 0) sT h hx rfl (by kernel_rfl) opI
  obtain rfl : c0 = .int .i64 m0 := List.cons.inj e0 |>.1
  obtain ⟨m1, e1, r1⟩ := zD (α := Int) (i := 1) sT h hx rfl (by kernel_rfl) opI
  obtain rfl : c1 = .int .i64 m1 := List.cons.inj e1 |>.1
  obtain ⟨m2, e2, r2⟩ := zD (α := Int) (i := 2) sT h hx rfl (by kernel_rfl) opI
  obtain rfl : c2 = .int .i64 m2 := List.cons.inj e2 |>.1
  obtain ⟨m3, e3, r3⟩ := zD (α := Int) (i := 3) sT h hx rfl (by kernel_rfl) opI
  obtain rfl : c3 = .int .i64 m3 := List.cons.inj e3 |>.1
  obtain ⟨m4, e4, r4⟩ := zD (α := Int) (i := 4) sT h hx rfl (by kernel_rfl) opI
  obtain rfl : c4 = .int .i64 m4 := List.cons.inj e4 |>.1
  exact ⟨⟨m0, m1, m2, m3, m4⟩, rfl, ⟨r0, r1, r2, r3, r4⟩⟩
theorem JZ : yS Tryz.prog 22 (List Typ) := xq wT zbh (by kernel_rfl) (by kernel_rfl)
theorem JV : yS Tryz.prog 23 (List Prj) := xq mR zbq (by kernel_rfl) (by kernel_rfl)
theorem lst_2 {α : Type} {l : List α} (h : l.length = 2) : ∃ a0 a1, l = [a0, a1] := by
  match l, h with
  | [a0, a1], _ => exact ⟨a0, a1, rfl⟩
theorem zbl : yS Tryz.prog 25 Dcl := by
  intro H enc w fuel cs x h hx
  obtain ⟨_, _, _, _, hl, _⟩ := DataW.trod_struct nR h
  obtain ⟨c0, c1, rfl⟩ := lst_2 (hl.trans (by kernel_rfl))
  obtain ⟨l0, v0, e0, r0⟩ := zD (α := List Typ) (i := 0) nR h hx rfl (by kernel_rfl) JZ
  obtain rfl : c0 = v0 := List.cons.inj e0 |>.1
  obtain ⟨l1, v1, e1, r1⟩ := zD (α := List Prj) (i := 1) nR h hx rfl (by kernel_rfl) JV
  obtain rfl : c1 = v1 := List.cons.inj e1 |>.1
  exact ⟨⟨l0, l1⟩, c0, c1, rfl, r0, r1, ⟨⟩⟩
theorem zax : yS Tryz.prog 39 (List Int) := xq rR opI (by kernel_rfl) (by kernel_rfl)
theorem zbu {α : Type} {l : List α} (h : l.length = 10) : ∃ a0 a1 a2 a3 a4 a5 a6 a7 a8 a9, l = [a0, a1, a2, a3, a4, a5, a6, a7, a8, a9] := by
  match l, h with
  | [a0, a1, a2, a3, a4, a5, a6, a7, a8, a9], _ => exact ⟨a0, a1, a2, a3, a4, a5, a6, a7, a8, a9, rfl⟩
theorem op_Ev : yS Tryz.prog 41 Ev := by
  intro H enc w fuel cs x h hx
  obtain ⟨_, _, _, _, hl, _⟩ := DataW.trod_struct lT h
  obtain ⟨c0, c1, c2, c3, c4, c5, c6, c7, c8, c9, rfl⟩ := zbu (hl.trans (by kernel_rfl))
  obtain ⟨⟨m0, m1⟩, e0, r0, r1⟩ := zD (α := Int × Int) (i := 0) lT h hx rfl (by kernel_rfl) opId
  obtain rfl : c0 = .int .i64 m0 := List.cons.inj e0 |>.1
  obtain rfl : c1 = .int .i64 m1 := List.cons.inj (List.cons.inj e0 |>.2) |>.1
  obtain ⟨m2, e2, r2⟩ := zD (α := Int) (i := 1) lT h hx rfl (by kernel_rfl) opI
  obtain rfl : c2 = .int .i64 m2 := List.cons.inj e2 |>.1
  obtain ⟨l3, v3, e3, r3⟩ := zD (α := List Int) (i := 2) lT h hx rfl (by kernel_rfl) zax
  obtain rfl : c3 = v3 := List.cons.inj e3 |>.1
  obtain ⟨m4, e4, r4⟩ := zD (α := Int) (i := 3) lT h hx rfl (by kernel_rfl) opI
  obtain rfl : c4 = .int .i64 m4 := List.cons.inj e4 |>.1
  obtain ⟨m5, e5, r5⟩ := zD (α := Int) (i := 4) lT h hx rfl (by kernel_rfl) opI
  obtain rfl : c5 = .int .i64 m5 := List.cons.inj e5 |>.1
  obtain ⟨m6, e6, r6⟩ := zD (α := Int) (i := 5) lT h hx rfl (by kernel_rfl) opI
  obtain rfl : c6 = .int .i64 m6 := List.cons.inj e6 |>.1
  obtain ⟨m7, e7, r7⟩ := zD (α := Int) (i := 6) lT h hx rfl (by kernel_rfl) opI
  obtain rfl : c7 = .int .i64 m7 := List.cons.inj e7 |>.1
  obtain ⟨m8, e8, r8⟩ := zD (α := Int) (i := 7) lT h hx rfl (by kernel_rfl) opI
  obtain rfl : c8 = .int .i64 m8 := List.cons.inj e8 |>.1
  obtain ⟨m9, e9, r9⟩ := zD (α := Int) (i := 8) lT h hx rfl (by kernel_rfl) opI
  obtain rfl : c9 = .int .i64 m9 := List.cons.inj e9 |>.1
  exact ⟨⟨m0, m1, m2, l3, m4, m5, m6, m7, m8, m9⟩, c3, rfl, r3, ⟨r0, r1, r2, r4, r5, r6, r7, r8, r9⟩⟩
theorem lst_7 {α : Type} {l : List α} (h : l.length = 7) : ∃ a0 a1 a2 a3 a4 a5 a6, l = [a0, a1, a2, a3, a4, a5, a6] := by
  match l, h with
  | [a0, a1, a2, a3, a4, a5, a6], _ => exact ⟨a0, a1, a2, a3, a4, a5, a6, rfl⟩
theorem zbk : yS Tryz.prog 28 Cmd := by
  intro H enc w fuel cs x h hx
  obtain ⟨_, _, _, _, hl, _⟩ := DataW.trod_struct nT h
  obtain ⟨c0, c1, c2, c3, c4, c5, c6, rfl⟩ := lst_7 (hl.trans (by kernel_rfl))
  obtain ⟨m0, e0, r0⟩ := zD (α := Int) (i := 0) nT h hx rfl (by kernel_rfl) opI
  obtain rfl : c0 = .int .i64 m0 := List.cons.inj e0 |>.1
  obtain ⟨m1, e1, r1⟩ := zD (α := Int) (i := 1) nT h hx rfl (by kernel_rfl) opI
  obtain rfl : c1 = .int .i64 m1 := List.cons.inj e1 |>.1
  obtain ⟨m2, e2, r2⟩ := zD (α := Int) (i := 2) nT h hx rfl (by kernel_rfl) opI
  obtain rfl : c2 = .int .i64 m2 := List.cons.inj e2 |>.1
  obtain ⟨m3, e3, r3⟩ := zD (α := Int) (i := 3) nT h hx rfl (by kernel_rfl) opI
  obtain rfl : c3 = .int .i64 m3 := List.cons.inj e3 |>.1
  obtain ⟨m4, e4, r4⟩ := zD (α := Int) (i := 4) nT h hx rfl (by kernel_rfl) opI
  obtain rfl : c4 = .int .i64 m4 := List.cons.inj e4 |>.1
  obtain ⟨m5, e5, r5⟩ := zD (α := Int) (i := 5) nT h hx rfl (by kernel_rfl) opI
  obtain rfl : c5 = .int .i64 m5 := List.cons.inj e5 |>.1
  obtain ⟨m6, e6, r6⟩ := zD (α := Int) (i := 6) nT h hx rfl (by kernel_rfl) opI
  obtain rfl : c6 = .int .i64 m6 := List.cons.inj e6 |>.1
  exact ⟨⟨m0, m1, m2, m3, m4, m5, m6⟩, rfl, ⟨r0, r1, r2, r3, r4, r5, r6⟩⟩
theorem WM {H : Type} {enc : TypeId × Value → H} {W : World} {base : Nat} {v : Value} {d : DataW H} {ps : List MemPlace} (hval : Value.okWide Tryz.prog W .any base 25 v) (h : DataW.Trod enc Tryz.prog W 0 (fun _ => true) true 25 v d ps) (hx : Zo Tryz.prog 25 d) : ∃ (p : Dcl) (d1 : Value) (d2 : Value), v = .agg (p.cells d1 d2).toArray ∧ RdS W (xi W) d1 p.types ∧ RdS W (xi W) d2 p.projs ∧ p.Ok := by
  obtain ⟨cs, rfl, _⟩ := okWide_struct nR hval
  obtain ⟨fuel, hf⟩ := h
  obtain ⟨e, d1, d2, he, hd1, hd2, ho⟩ := zbl H enc W fuel _ _ hf hx
  refine ⟨e, d1, d2, ?_, hd1, hd2, ho⟩
  have : cs.toList = e.cells d1 d2 := he
  rw [← this]
theorem Vw {H : Type} {enc : TypeId × Value → H} {W : World} {base : Nat} {v : Value} {d : DataW H} {ps : List MemPlace} (hval : Value.okWide Tryz.prog W .any base 3 v) (h : DataW.Trod enc Tryz.prog W 0 (fun _ => true) true 3 v d ps) (hx : Zo Tryz.prog 3 d) : ∃ n : Int, v = .int .i64 n ∧ InR n := by
  obtain ⟨n, rfl⟩ := okWide_int lR hval
  obtain ⟨fuel, hf⟩ := h
  obtain ⟨m, he, hr⟩ := opI H enc W fuel _ _ hf hx
  obtain rfl : n = m := by
    have := List.cons.inj he |>.1
    cases this; rfl
  exact ⟨n, rfl, hr⟩
theorem zaO : yS Tryz.prog 26 (List Ev) := xq mY op_Ev (by kernel_rfl) (by kernel_rfl)
theorem VX {H : Type} {enc : TypeId × Value → H} {W : World} {base : Nat} {v : Value} {d : DataW H} {ps : List MemPlace} (hval : Value.okWide Tryz.prog W .any base 26 v) (h : DataW.Trod enc Tryz.prog W 0 (fun _ => true) true 26 v d ps) (hx : Zo Tryz.prog 26 d) : ∃ l : List Ev, RdS W (xi W) v l := by
  obtain ⟨a, len, cap, rfl⟩ := okWide_slice mY hval
  obtain ⟨fuel, hf⟩ := h
  obtain ⟨l, v, he, hr⟩ := zaO H enc W fuel _ _ hf hx
  obtain rfl := List.cons.inj he |>.1
  exact ⟨l, hr⟩
theorem WU {H : Type} {enc : TypeId × Value → H} {W : World} {base : Nat} {v : Value} {d : DataW H} {ps : List MemPlace} (hval : Value.okWide Tryz.prog W .any base 28 v) (h : DataW.Trod enc Tryz.prog W 0 (fun _ => true) true 28 v d ps) (hx : Zo Tryz.prog 28 d) : ∃ (p : Cmd) , v = .agg (p.cells).toArray ∧ p.Ok := by
  obtain ⟨cs, rfl, _⟩ := okWide_struct nT hval
  obtain ⟨fuel, hf⟩ := h
  obtain ⟨e, he, ho⟩ := zbk H enc W fuel _ _ hf hx
  refine ⟨e, ?_, ho⟩
  have : cs.toList = e.cells := he
  rw [← this]
theorem Tryz.own : ownKnob Tryz.prog.godebug = none := by kernel_rfl
theorem Tryz.laidOut : laidOutB Tryz.prog = true := by kernel_rfl
theorem Jy : Tryz.prog.globalNamed "quayside/schema.kinds" = some 0 := by kernel_rfl
theorem zbp : (Tryz.prog.globals[0]?).map (·.type) = some 139 := by kernel_rfl
theorem QC {W : World} (h : laidMetH Tryz.prog [("quayside/schema.kinds", Rows.laid_quayside_schema_kinds)] W) : RdS W (xi W) (.slice (some ⟨0, 0, none⟩) 6 6) kindsL := by
  rw [MakeChecks.laidMetH_plain _ _ _ (by kernel_rfl)] at h
  exact zad Jy (Lib.tabIs_of_head (k := .i64) (zs := kindsL) Jy zbp Tryz.underlying139 lR (by kernel_rfl) (by kernel_rfl) h) (by decide) (by decide)
theorem Jc (os : Os) (args : Array Value) : laidMetH Tryz.prog [("quayside/schema.kinds", Rows.laid_quayside_schema_kinds)] ((World.doorLaid Tryz.prog 14 os).forCall (fun _ _ => 0) ⟨#[], args, []⟩).memory :=
  laidMetH_of_parts3 (fuel := 8) (laidMet_of_run' 8 (by kernel_rfl) (by kernel_rfl)) (by kernel_rfl) (by kernel_rfl)
end Go.Proofs.YtbbabhaalmkbkaaGreatDoor
set_option maxRecDepth 8000
set_option maxHeartbeats 4000000
namespace Go.Proofs.YtbbabhaalmkbkaaGreatDoor
open Go.Proofs Go.RowKit

theorem zaq {t : Typ} {c : List Cel} {f op arg : Int} (h : yP t c f op arg = 0) : xx (xd t f) c (yd c f) op arg = true := by
  unfold yP at h
  split at h
  · assumption
  · cases h
end Go.Proofs.YtbbabhaalmkbkaaGreatDoor
namespace Go.Proofs.YtbbabhaalmkbkaaGreatDoor
open Go.RowKit Go.MapKept

structure KLaw (P : Program) (kt : TypeId) {κ : Type} [DecidableEq κ] (enc : κ → Value) : Prop where
  inj : ∀ {a b : κ}, enc a = enc b → a = b
  desc : ∃ d, P.underlying kt = some d ∧ ∀ a b, Instr.sameNow d (enc a) (enc b) = none
  check : ∀ (w : World) (e : Bool) (k : κ), (Instr.checkKey e 10000 kt (enc k)).run P w = .ok () w
  eql : ∀ (w : World) (a b : κ), (Op.equal kt (enc a) (enc b)).run P w = .ok (decide (a = b)) w
  stays : ∀ k, Instr.sameBits 10000 (enc k) (enc k) = true

def ym {κ β : Type} [DecidableEq κ] (L : List (κ × β)) (k : κ) : Option β := (L.find? fun p => decide (p.1 = k)).map (·.2)
def Wt {κ β : Type} [DecidableEq κ] (L : List (κ × β)) (k : κ) (x : β) : List (κ × β) := match L.findIdx? fun p => decide (p.1 = k) with
  | some j => L.set j (k, x)
  | none => L ++ [(k, x)]
def VE {κ β : Type} [DecidableEq κ] (L : List (κ × β)) (k : κ) (z : β) : List (κ × β) := match L.findIdx? fun p => decide (p.1 = k) with
  | some _ => L
  | none => L ++ [(k, z)]

section
variable {P : Program} {kt : TypeId} {κ : Type} [DecidableEq κ] {enc : κ → Value}
theorem KLaw.ask (K : KLaw P kt enc) (k : κ) (w : World) : ∀ (es : List MapEntry) (i : Nat), (∀ e ∈ es, ∃ q, e.key = enc q) →
    ((Instr.findAsking kt (enc k) es i).run P w = .ok none w ∧ ∀ e ∈ es, e.key ≠ enc k) ∨ ∃ j e, (Instr.findAsking kt (enc k) es i).run P w = .ok (some (i + j, e.val)) w ∧ es[j]? = some e ∧ e.key = enc k
  | [], i, _ => .inl ⟨rfl, by simp⟩
  | e :: es, i, h => by
    obtain ⟨q, hq⟩ := h e (.head _)
    by_cases hk : k = q
    · subst hk
      refine .inr ⟨0, e, ?_, rfl, hq⟩
      simp [Instr.findAsking, hq, K.eql, go_sem]
    · rcases KLaw.ask K k w es (i + 1) (fun x hx => h x (.tail _ hx)) with ⟨h1, h2⟩ | ⟨j, e', h1, h2, h3⟩
      · refine .inl ⟨?_, fun x hx => ?_⟩
        · simp [Instr.findAsking, hq, K.eql, hk, h1, go_sem]
        · rcases List.mem_cons.1 hx with rfl | hx
          · rw [hq]; exact fun e => hk (K.inj e).symm
          · exact h2 x hx
      · refine .inr ⟨j + 1, e', ?_, by simpa using h2, h3⟩
        have e9 : i + 1 + j = i + (j + 1) := by omega
        rw [e9] at h1
        simp [Instr.findAsking, hq, K.eql, hk, h1, go_sem]
theorem KLaw.find (K : KLaw P kt enc) (k : κ) (w : World) (es : List MapEntry) (h : ∀ e ∈ es, ∃ q, e.key = enc q) :
    ((Instr.findKey kt (enc k) es).run P w = .ok none w ∧ ∀ e ∈ es, e.key ≠ enc k) ∨ ∃ j e, (Instr.findKey kt (enc k) es).run P w = .ok (some (j, e.val)) w ∧ es[j]? = some e ∧ e.key = enc k := by
  obtain ⟨d, hd, hs⟩ := K.desc
  match es, h with
  | [], h => exact .inl ⟨by simp [Instr.findKey, run_underlying hd, Instr.findNow, go_sem], by simp⟩
  | e :: es, h =>
    obtain ⟨q, hq⟩ := h e (.head _)
    have hn : Instr.findNow d (enc k) (e :: es) 0 = none := by simp [Instr.findNow, hq, hs]
    have hr : ∀ r, (Instr.findAsking kt (enc k) (e :: es) 0).run P w = .ok r w → (Instr.findKey kt (enc k) (e :: es)).run P w = .ok r w := by
      intro r hr
      simp [Instr.findKey, run_underlying hd, hn, go_sem]
      exact hr
    rcases K.ask k w (e :: es) 0 h with ⟨h1, h2⟩ | ⟨j, e', h1, h2, h3⟩
    · exact .inl ⟨hr _ h1, h2⟩
    · exact .inr ⟨j, e', hr _ (by rw [h1, Nat.zero_add]), h2, h3⟩
theorem KLaw.keeps (K : KLaw P kt enc) (k : κ) (w : World) : (Instr.keyThatStays (enc k) (enc k)).run P w = .ok (enc k) w := by
  simp [Instr.keyThatStays, K.stays]

def EntsV (enc : κ → Value) (es : List MapEntry) (L : List (κ × Value)) : Prop := es.map (fun e => (e.key, e.val)) = L.map (fun p => (enc p.1, p.2))
theorem EntsV.len {es : List MapEntry} {L : List (κ × Value)} (h : EntsV enc es L) : es.length = L.length := by have := congrArg List.length h; simpa using this
theorem EntsV.at_ {es : List MapEntry} {L : List (κ × Value)} (h : EntsV enc es L) {j : Nat} {e : MapEntry} (he : es[j]? = some e) : ∃ p, L[j]? = some p ∧ e.key = enc p.1 ∧ e.val = p.2 := by
  have h1 : (es.map (fun e => (e.key, e.val)))[j]? = (L.map (fun p => (enc p.1, p.2)))[j]? := by rw [show es.map _ = L.map _ from h]
  rw [List.getElem?_map, List.getElem?_map, he] at h1
  cases hp : L[j]? with
  | none => rw [hp] at h1; cases h1
  | some p => rw [hp] at h1; simp only [Option.map_some, Option.some.injEq, Prod.mk.injEq] at h1; exact ⟨p, rfl, h1.1, h1.2⟩
theorem EntsV.keys {es : List MapEntry} {L : List (κ × Value)} (h : EntsV enc es L) : ∀ e ∈ es, ∃ q, e.key = enc q := by
  intro e he
  obtain ⟨j, hj, rfl⟩ := List.getElem_of_mem he
  obtain ⟨p, _, h1, _⟩ := h.at_ (List.getElem?_eq_getElem hj)
  exact ⟨p.1, h1⟩
theorem EntsV.nodup {es : List MapEntry} {L : List (κ × Value)} (h : EntsV enc es L) (hp : (es.map (·.key)).Nodup) : (L.map (·.1)).Nodup := by
  have h1 : (es.map (·.key)) = (L.map (·.1)).map enc := by
    have := congrArg (List.map Prod.fst) h
    simpa [Function.comp_def] using this
  have h2 : ((L.map (·.1)).map enc).Nodup := by rw [← h1]; exact hp
  exact (List.pairwise_map.1 h2).imp (fun hne e => hne (by rw [e]))
theorem EntsV.none {es : List MapEntry} {L : List (κ × Value)} (h : EntsV enc es L) {k : κ} (hk : ∀ e ∈ es, e.key ≠ enc k) : (L.findIdx? fun p => decide (p.1 = k)) = none ∧ ym L k = none := by
  have key : ∀ p ∈ L, ¬ p.1 = k := by
    intro p hp e
    obtain ⟨j, hj, rfl⟩ := List.getElem_of_mem hp
    have hje : j < es.length := by rw [h.len]; exact hj
    obtain ⟨q, h1, h2, _⟩ := h.at_ (List.getElem?_eq_getElem hje)
    rw [List.getElem?_eq_getElem hj] at h1
    cases h1
    exact hk _ (List.getElem_mem hje) (by rw [h2, e])
  refine ⟨by rw [List.findIdx?_eq_none_iff]; intro p hp; simpa using key p hp, ?_⟩
  unfold ym
  rw [Option.map_eq_none_iff, List.find?_eq_none]
  intro p hp
  simpa using key p hp
theorem EntsV.some {es : List MapEntry} {L : List (κ × Value)} (h : EntsV enc es L) (hi : ∀ {a b : κ}, enc a = enc b → a = b) (hp : (es.map (·.key)).Nodup) {k : κ} {j : Nat} {e : MapEntry} (he : es[j]? = some e) (hk : e.key = enc k) :
    j < L.length ∧ (L.findIdx? fun p => decide (p.1 = k)) = some j ∧ ym L k = some e.val := by
  obtain ⟨p, h1, h2, h3⟩ := h.at_ he
  have hjl := (List.getElem?_eq_some_iff.1 h1).1
  have hpe : L[j] = p := (List.getElem?_eq_some_iff.1 h1).2
  have hpk : p.1 = k := hi (by rw [← h2, hk])
  have hn := h.nodup hp
  have first : ∀ i (hij : i < j), ¬ (L[i]'(by omega)).1 = k := fun i hij => by
    have := List.pairwise_iff_getElem.1 (List.pairwise_map.1 hn) i j (by omega) hjl hij
    intro e; exact this (by rw [e, hpe, hpk])
  refine ⟨hjl, ?_, ?_⟩
  · rw [List.findIdx?_eq_some_iff_getElem]
    exact ⟨hjl, by simp [hpe, hpk], fun i hi => by simpa using first i hi⟩
  · unfold ym
    have : (L.find? fun p => decide (p.1 = k)) = Option.some p := by
      rw [List.find?_eq_some_iff_getElem]
      exact ⟨by simp [hpk], j, hjl, hpe, fun i hi => by simpa using first i hi⟩
    rw [this, Option.map_some, h3]

def IsMap (enc : κ → Value) (w : World) (m : Nat) (L : List (κ × Value)) : Prop := ∃ es clock, w.heap[m]? = some (.map es clock) ∧ Stamped es clock ∧ EntsV enc es.toList L ∧ clock = es.size
def IsMapE (enc : κ → Value) (w : World) (m : Nat) (L : List (κ × Value)) (j : Nat) (s : Int) : Prop := ∃ es clock, w.heap[m]? = some (.map es clock) ∧ Stamped es clock ∧ EntsV enc es.toList L ∧ clock = es.size ∧ ∃ e, es[j]? = some e ∧ (e.born : Int) = s
theorem IsMapE.is {w : World} {m j : Nat} {s : Int} {L : List (κ × Value)} (h : IsMapE enc w m L j s) : IsMap enc w m L := by obtain ⟨es, c, h1, h2, h3, h4, _⟩ := h; exact ⟨es, c, h1, h2, h3, h4⟩
theorem IsMap.lt {w : World} {m : Nat} {L : List (κ × Value)} (h : IsMap enc w m L) : m < w.heap.size := by obtain ⟨es, c, hb, _⟩ := h; exact yK hb
theorem IsMap.nodup {w : World} {m : Nat} {L : List (κ × Value)} (h : IsMap enc w m L) : (L.map (·.1)).Nodup := by
  obtain ⟨es, c, hb, hs, he, _⟩ := h
  exact he.nodup hs.2.2
end

section
variable {P : Program} {d : Option Tmp} {ty : TypeId} {pos : String} {af : Array Edge} {gd : Option (Nat × Bool)} {σ : Env} {w : World} {K : Value → World → Prop} {κ : Type} [DecidableEq κ] {enc : κ → Value} {G : Nat → Prop} {W : World} {As : List HP} {m : Nat} {L : List (κ × Value)}

theorem Zy {m : Nat} {es es' : Array MapEntry} {c c' : Nat} (hb : w.heap[m]? = some (.map es c)) : Chg (fun i => i = m) w { w with heap := w.heap.setIfInBounds m (.map es' c') } := by
  refine ⟨rfl, rfl, rfl, by simp, fun i hi hne => (heap_set hb).2 i hne, ?_, Nat.le_refl _⟩
  rintro i ⟨c, T, hc⟩
  have hne : i ≠ m := fun e => by subst e; rw [hb] at hc; cases hc
  exact ⟨c, T, by rw [(heap_set hb).2 i hne]; exact hc⟩
theorem Xh {es : Array MapEntry} (h : EntsV enc es.toList L) (k : κ) (v : Value) (n : Nat) : EntsV enc (es.push { key := enc k, val := v, born := n }).toList (L ++ [(k, v)]) := by
  unfold EntsV at *
  rw [Array.toList_push, List.map_append, List.map_append, h]
  rfl
theorem Ys {es : Array MapEntry} (h : EntsV enc es.toList L) {k : κ} {v : Value} {j : Nat} {e : MapEntry} (he : es.toList[j]? = some e) (f : MapEntry → MapEntry) (hk : (f e).key = enc k) (hv : (f e).val = v) : EntsV enc (es.modify j f).toList (L.set j (k, v)) := by
  unfold EntsV at *
  rw [Array.toList_modify, List.modify_eq_set, he]
  simp only [Option.map_some, Option.getD_some, List.map_set, h, hk, hv]

theorem VW {t kt et : TypeId} {x y : Operand} {k : κ} {z : Value} (hK : KLaw P kt enc) (hU : P.underlying t = some (.map kt et)) (hZ : ∀ w, (zeroValue et).run P w = .ok z w)
    (hx : ev σ x = .map (some m)) (hy : ev σ y = enc k) (hm : IsMap enc w m L) (h : K ((ym L k).getD z) w) : opV P ⟨d, .lookup t x y false, ty, pos, af, gd⟩ σ w K := by
  obtain ⟨es, clock, hb, hs, he, _⟩ := hm
  rcases hK.find k w es.toList he.keys with ⟨h1, h2⟩ | ⟨j, e, h1, h2, h3⟩
  · rw [(he.none h2).2] at h
    refine zO (v := z) (w' := w) ?_ h
    simp [execOp, hx, hy, Instr.lookup, run_underlying hU, MapKept.run_getObj_map hb, hK.check, h1, hZ, go_sem]
  · rw [(he.some hK.inj hs.2.2 h2 h3).2.2] at h
    refine zO (v := e.val) (w' := w) ?_ h
    simp [execOp, hx, hy, Instr.lookup, run_underlying hU, MapKept.run_getObj_map hb, hK.check, h1, go_sem]
theorem YA {t kt et : TypeId} {x y : Operand} {k : κ} {z : Value} (hK : KLaw P kt enc) (hU : P.underlying t = some (.map kt et)) (hZ : ∀ w, (zeroValue et).run P w = .ok z w)
    (hx : ev σ x = .map (some m)) (hy : ev σ y = enc k) (hm : IsMap enc w m L) (h : K (.tuple #[(ym L k).getD z, .bool (ym L k).isSome]) w) : opV P ⟨d, .lookup t x y true, ty, pos, af, gd⟩ σ w K := by
  obtain ⟨es, clock, hb, hs, he, _⟩ := hm
  rcases hK.find k w es.toList he.keys with ⟨h1, h2⟩ | ⟨j, e, h1, h2, h3⟩
  · rw [(he.none h2).2] at h
    refine zO (v := .tuple #[z, .bool false]) (w' := w) ?_ h
    simp [execOp, hx, hy, Instr.lookup, run_underlying hU, MapKept.run_getObj_map hb, hK.check, h1, hZ, go_sem]
  · rw [(he.some hK.inj hs.2.2 h2 h3).2.2] at h
    refine zO (v := .tuple #[e.val, .bool true]) (w' := w) ?_ h
    simp [execOp, hx, hy, Instr.lookup, run_underlying hU, MapKept.run_getObj_map hb, hK.check, h1, go_sem]
theorem XN {t kt et : TypeId} {x y z : Operand} {k : κ} {v : Value} (hK : KLaw P kt enc) (hU : P.underlying t = some (.map kt et)) (hx : ev σ x = .map (some m)) (hy : ev σ y = enc k) (hz : ev σ z = v) (hm : IsMap enc w m L)
    (h : ∀ w1, IsMap enc w1 m (Wt L k v) → Chg (fun i => i = m) w w1 → K undef w1) : opV P ⟨d, .mapUpdate t x y z, ty, pos, af, gd⟩ σ w K := by
  obtain ⟨es, clock, hb, hs, he, hcl⟩ := hm
  rcases hK.find k w es.toList he.keys with ⟨h1, h2⟩ | ⟨j, e, h1, h2, h3⟩
  · refine ZD (w' := { w with heap := w.heap.setIfInBounds m (.map (es.push { key := enc k, val := v, born := clock }) (clock + 1)) }) ?_ (h _ ?_ (Zy hb))
    · simp [execOp, hx, hy, hz, Instr.mapUpdate, run_underlying hU, MapKept.run_getObj_map hb, hK.check, h1, MapKept.run_setObj_map _ hb, go_sem]
    · unfold Wt
      rw [(he.none h2).1]
      exact ⟨_, _, (heap_set hb).1, stamped_push hs h2, Xh he k v clock, by simp [hcl]⟩
  · have hja : es[j]? = some e := by simpa using h2
    obtain ⟨hjl, hfi, _⟩ := he.some hK.inj hs.2.2 h2 h3
    refine ZD (w' := { w with heap := w.heap.setIfInBounds m (.map (es.modify j fun e => { e with key := enc k, val := v }) clock) }) ?_ (h _ ?_ (Zy hb))
    · simp [execOp, hx, hy, hz, Instr.mapUpdate, run_underlying hU, MapKept.run_getObj_map hb, hK.check, h1, hja, h3, hK.keeps, MapKept.run_setObj_map _ hb, go_sem]
    · unfold Wt
      rw [hfi]
      exact ⟨_, _, (heap_set hb).1, stamped_modify hs _ _ (fun _ _ => rfl) (fun e' _ he' => by rw [hja] at he'; cases he'; exact h3.symm), Ys he h2 _ rfl rfl, by simp [hcl]⟩
theorem WG {t kt et : TypeId} {x y : Operand} {k : κ} {z : Value} (hK : KLaw P kt enc) (hU : P.underlying t = some (.map kt et)) (hZ : ∀ w, (zeroValue et).run P w = .ok z w) (hx : ev σ x = .map (some m)) (hy : ev σ y = enc k) (hm : IsMap enc w m L)
    (h : ∀ w1 j s, IsMapE enc w1 m (VE L k z) j s → (∀ v, (VE L k z).set j (k, v) = Wt L k v) → (∃ p, (VE L k z)[j]? = some p ∧ p.1 = k) → Chg (fun i => i = m) w w1 → K (.tuple #[(ym L k).getD z, .int .i64 s]) w1) : opV P ⟨d, .mapEntry t x y, ty, pos, af, gd⟩ σ w K := by
  obtain ⟨es, clock, hb, hs, he, hcl⟩ := hm
  rcases hK.find k w es.toList he.keys with ⟨h1, h2⟩ | ⟨j, e, h1, h2, h3⟩
  · have h0 := h { w with heap := w.heap.setIfInBounds m (.map (es.push { key := enc k, val := z, born := clock }) (clock + 1)) } es.size (clock : Int)
    unfold VE Wt at h0
    rw [(he.none h2).1, (he.none h2).2] at h0
    refine zO (v := .tuple #[z, .int .i64 (clock : Int)]) (w' := { w with heap := w.heap.setIfInBounds m (.map (es.push { key := enc k, val := z, born := clock }) (clock + 1)) }) ?_ (h0 ⟨_, _, (heap_set hb).1, stamped_push hs h2, Xh he k z clock, by simp [hcl], { key := enc k, val := z, born := clock }, by simp, rfl⟩ ?_ ?_ (Zy hb))
    · simp [execOp, hx, hy, Instr.mapEntry, run_underlying hU, MapKept.run_getObj_map hb, hK.check, h1, hZ, MapKept.run_setObj_map _ hb, goInt, go_sem]
    · intro v
      have hl : es.size = L.length := by have := he.len; simpa using this
      simp only [hl]
      rw [List.set_append_right _ _ (Nat.le_refl _), Nat.sub_self]; rfl
    · have hl : es.size = L.length := by have := he.len; simpa using this
      exact ⟨(k, z), by rw [hl]; simp, rfl⟩
  · have hja : es[j]? = some e := by simpa using h2
    obtain ⟨hjl, hfi, hlk⟩ := he.some hK.inj hs.2.2 h2 h3
    have h0 := h { w with heap := w.heap.setIfInBounds m (.map (es.modify j fun e => { e with key := enc k }) clock) } j (e.born : Int)
    unfold VE Wt at h0
    rw [hfi, hlk] at h0
    have hes : EntsV enc (es.modify j fun e => { e with key := enc k }).toList L := by
      have h9 := Ys he (k := k) (v := e.val) h2 (fun e => { e with key := enc k }) rfl rfl
      obtain ⟨p, q1, q2, q3⟩ := he.at_ h2
      have : L.set j (k, e.val) = L := by
        obtain ⟨hj9, q4⟩ := List.getElem?_eq_some_iff.1 q1
        have hpk : p.1 = k := hK.inj (by rw [← q2, h3])
        rw [q3, show (k, p.2) = L[j] by rw [q4, ← hpk]]
        exact List.set_getElem_self hj9
      rwa [this] at h9
    refine zO (v := .tuple #[e.val, .int .i64 (e.born : Int)]) (w' := { w with heap := w.heap.setIfInBounds m (.map (es.modify j fun e => { e with key := enc k }) clock) }) ?_ (h0 ⟨_, _, (heap_set hb).1, stamped_modify hs _ _ (fun _ _ => rfl) (fun e' _ he' => by rw [hja] at he'; cases he'; exact h3.symm), hes, by simp [hcl], { e with key := enc k }, by simp [Array.getElem?_modify, hja], rfl⟩ (fun v => rfl) ((he.at_ h2).elim fun p hp => ⟨p, hp.1, hK.inj (by rw [← hp.2.1, h3])⟩) (Zy hb))
    simp [execOp, hx, hy, Instr.mapEntry, run_underlying hU, MapKept.run_getObj_map hb, hK.check, h1, hja, h3, hK.keeps, MapKept.run_setObj_map _ hb, goInt, go_sem]
theorem YS {t : TypeId} {x y z : Operand} {j : Nat} {s : Int} {v : Value} {p : κ × Value} (hx : ev σ x = .map (some m)) (hy : ev σ y = .int .i64 s) (hz : ev σ z = v) (hm : IsMapE enc w m L j s) (hp : L[j]? = some p)
    (h : ∀ w1, IsMap enc w1 m (L.set j (p.1, v)) → Chg (fun i => i = m) w w1 → K undef w1) : opV P ⟨d, .entryStore t x y z, ty, pos, af, gd⟩ σ w K := by
  obtain ⟨es, clock, hb, hs, he, hcl, e, hja, hbn⟩ := hm
  have h2 : es.toList[j]? = some e := by simpa using hja
  have hjs : j < es.size := (Array.getElem?_eq_some_iff.1 hja).1
  have hej : es[j] = e := (Array.getElem?_eq_some_iff.1 hja).2
  have hfi : es.findIdx? (fun e => (e.born : Int) == s) = some j := by
    rw [Array.findIdx?_eq_some_iff_getElem]
    refine ⟨hjs, by simp [hej, hbn], fun i hi => ?_⟩
    have := List.pairwise_iff_getElem.1 (List.pairwise_map.1 hs.2.1) i j (by simp; omega) (by simpa using hjs) hi
    simp only [Array.getElem_toList] at this
    rw [hej] at this
    have h9 : ¬ ((es[i].born : Int) = s) := fun e9 => this (by omega)
    simpa using h9
  obtain ⟨q, q1, q2, q3⟩ := he.at_ h2
  rw [hp] at q1
  cases q1
  refine ZD (w' := { w with heap := w.heap.setIfInBounds m (.map (es.modify j fun e => { e with val := v }) clock) }) ?_ (h _ ?_ (Zy hb))
  · simp [execOp, hx, hy, hz, Instr.entryStore, MapKept.run_getObj_map hb, asInt, hfi, MapKept.run_setObj_map _ hb, go_sem]
  · exact ⟨_, _, (heap_set hb).1, stamped_modify hs _ _ (fun _ _ => rfl) (fun e' _ he' => rfl), Ys he h2 _ q2 rfl, by simp [hcl]⟩
end
end Go.Proofs.YtbbabhaalmkbkaaGreatDoor
namespace Go.Proofs.YtbbabhaalmkbkaaGreatDoor
open Go.RowKit Go.MapKept

section
variable {κ β : Type} [DecidableEq κ]
theorem ZZ {L : List (κ × β)} {k q : κ} {v : β} : ym (L ++ [(k, v)]) q = (ym L q).or (if k = q then some v else none) := by
  unfold ym
  rw [List.find?_append]
  cases h : L.find? fun p => decide (p.1 = q) with
  | some p => simp
  | none => by_cases e : k = q <;> simp [List.find?, e]
theorem XO {L : List (κ × β)} {k : κ} (h : (L.findIdx? fun p => decide (p.1 = k)) = none) : ym L k = none := by
  rw [List.findIdx?_eq_none_iff] at h
  unfold ym
  rw [Option.map_eq_none_iff, List.find?_eq_none]
  intro p hp
  simp [h p hp]
theorem Qt {L : List (κ × β)} {k q : κ} {v : β} {j : Nat} {p : κ × β} (hj : L[j]? = some p) (hp : p.1 = k) (hf : ∀ i, i < j → ∀ r, L[i]? = some r → r.1 ≠ k) : ym (L.set j (k, v)) q = if k = q then some v else ym L q := by
  induction L generalizing j with
  | nil => simp at hj
  | cons a L ih =>
    cases j with
    | zero =>
      simp only [List.getElem?_cons_zero, Option.some.injEq] at hj
      subst hj
      unfold ym
      by_cases e : k = q
      · subst e; simp
      · simp [e, hp]
    | succ j =>
      have h1 := ih (j := j) (by simpa using hj) (fun i hi r hr => hf (i + 1) (by omega) r (by simpa using hr))
      have h0 := hf 0 (by omega) a rfl
      unfold ym at h1 ⊢
      rw [List.set_cons_succ, List.find?_cons, List.find?_cons]
      by_cases e : a.1 = q
      · have : ¬ k = q := fun e2 => h0 (by rw [e, e2])
        simp [e, this]
      · simp only [e, decide_false]
        exact h1
theorem XF {L : List (κ × β)} {k : κ} {j : Nat} (h : (L.findIdx? fun p => decide (p.1 = k)) = some j) : (∃ p, L[j]? = some p ∧ p.1 = k) ∧ ∀ i, i < j → ∀ r, L[i]? = some r → r.1 ≠ k := by
  rw [List.findIdx?_eq_some_iff_getElem] at h
  obtain ⟨hj, h1, h2⟩ := h
  refine ⟨⟨L[j], List.getElem?_eq_getElem hj, by simpa using h1⟩, fun i hi r hr => ?_⟩
  have := h2 i hi
  obtain ⟨hil, e⟩ := List.getElem?_eq_some_iff.1 hr
  rw [← e]; simpa using this
theorem YT (L : List (κ × β)) (k q : κ) (v : β) : ym (Wt L k v) q = if k = q then some v else ym L q := by
  unfold Wt
  split
  · rename_i j hj
    obtain ⟨⟨p, h1, h2⟩, h3⟩ := XF hj
    exact Qt h1 h2 h3
  · rename_i hj
    rw [ZZ]
    by_cases e : k = q
    · subst e; rw [XO hj]; simp
    · simp [e]
theorem ZQ (L : List (κ × β)) (k q : κ) (z : β) (h : ¬ k = q) : ym (VE L k z) q = ym L q := by
  unfold VE
  split
  · rfl
  · rw [ZZ]; simp [h]
end

def Zr {κ α : Type} [DecidableEq κ] (X : κ → Option α) (k : κ) (x : α) : κ → Option α := fun q => if k = q then some x else X q

section
variable {κ α : Type} [DecidableEq κ]
def ValAt (E : Value → α → HP) (w : World) (F : Nat → Prop) : Option Value → Option α → Prop
  | some v, some x => (E v x).p w F
  | none, none => True
  | _, _ => False
theorem ValAt.loc {E : Value → α → HP} {w w' : World} {F F' : Nat → Prop} : ∀ {v : Option Value} {x : Option α}, ValAt E w F v x → (∀ b, F b → b < w.heap.size → w'.heap[b]? = w.heap[b]? ∧ F' b) → ValAt E w' F' v x
  | some v, some x, h, hf => (E v x).loc h hf
  | none, none, _, _ => trivial
  | some _, none, h, _ => h.elim
  | none, some _, h, _ => h.elim
theorem ValAt.isSome {E : Value → α → HP} {w : World} {F : Nat → Prop} : ∀ {v : Option Value} {x : Option α}, ValAt E w F v x → v.isSome = x.isSome
  | some _, some _, _ => rfl
  | none, none, _ => rfl
  | some _, none, h => h.elim
  | none, some _, h => h.elim
structure Spread (w : World) (m : Nat) (f : Nat → Prop) (g : κ → Nat → Prop) : Prop where
  sub : ∀ k b, g k b → f b ∧ b < w.heap.size ∧ b ≠ m
  apart : ∀ k k', k ≠ k' → ∀ b, g k b → ¬ g k' b
theorem Spread.loc {w w' : World} {m : Nat} {f f' : Nat → Prop} {g : κ → Nat → Prop} (h : Spread w m f g) (hf : ∀ b, f b → b < w.heap.size → w'.heap[b]? = w.heap[b]? ∧ f' b) : Spread w' m f' g :=
  ⟨fun k b hb => ⟨(hf b (h.sub k b hb).1 (h.sub k b hb).2.1).2, by
    obtain ⟨h1, h2, _⟩ := h.sub k b hb
    have := (hf b h1 h2).1
    rw [Array.getElem?_eq_getElem h2] at this
    exact (Array.getElem?_eq_some_iff.1 this).1, (h.sub k b hb).2.2⟩, h.apart⟩
theorem Spread.loc2 {w w' : World} {m : Nat} {f : Nat → Prop} {g : κ → Nat → Prop} (h : Spread w m f g) (hz : w.heap.size ≤ w'.heap.size) : Spread w' m f g := ⟨fun k b hb => ⟨(h.sub k b hb).1, Nat.lt_of_lt_of_le (h.sub k b hb).2.1 hz, (h.sub k b hb).2.2⟩, h.apart⟩
def MapO (enc : κ → Value) (E : Value → α → HP) (m : Nat) (X : κ → Option α) : HP := ⟨fun w f => ∃ (R : List (κ × Value)) (g : κ → Nat → Prop), f m ∧ IsMap enc w m R ∧ (∀ k, ValAt E w (g k) (ym R k) (X k)) ∧ Spread w m f g, fun {w w' f f'} h hf => by
  obtain ⟨R, g, hm, ⟨es, c, hb, r⟩, hv, hs⟩ := h
  exact ⟨R, g, (hf m hm (yK hb)).2, ⟨es, c, ((hf m hm (yK hb)).1).trans hb, r⟩, fun k => (hv k).loc (fun b hg hlt => ⟨(hf b (hs.sub k b hg).1 hlt).1, hg⟩), hs.loc hf⟩⟩
def xE (enc : κ → Value) (E : Value → α → HP) (z : Value) (m : Nat) (X : κ → Option α) (k : κ) (v : Value) : HP := ⟨fun w f => ∃ (R : List (κ × Value)) (g : κ → Nat → Prop), f m ∧ IsMap enc w m R ∧ (ym R k).getD z = v ∧ (ym R k).isSome = (X k).isSome ∧ (∀ q, q ≠ k → ValAt E w (g q) (ym R q) (X q)) ∧ Spread w m f g, fun {w w' f f'} h hf => by
  obtain ⟨R, g, hm, ⟨es, c, hb, r⟩, h1, h2, hv, hs⟩ := h
  exact ⟨R, g, (hf m hm (yK hb)).2, ⟨es, c, ((hf m hm (yK hb)).1).trans hb, r⟩, h1, h2, fun q hq => (hv q hq).loc (fun b hg hlt => ⟨(hf b (hs.sub q b hg).1 hlt).1, hg⟩), hs.loc hf⟩⟩
def Wi (enc : κ → Value) (E : Value → α → HP) (m : Nat) (X : κ → Option α) (k : κ) (s : Int) : HP := ⟨fun w f => ∃ (R : List (κ × Value)) (g : κ → Nat → Prop) (j : Nat), f m ∧ IsMapE enc w m R j s ∧ (∀ v q, ym (R.set j (k, v)) q = if k = q then some v else ym R q) ∧ (∃ p, R[j]? = some p ∧ p.1 = k) ∧ (∀ q, q ≠ k → ValAt E w (g q) (ym R q) (X q)) ∧ Spread w m f g, fun {w w' f f'} h hf => by
  obtain ⟨R, g, j, hm, ⟨es, c, hb, r⟩, h1, h2, hv, hs⟩ := h
  exact ⟨R, g, j, (hf m hm (yK hb)).2, ⟨es, c, ((hf m hm (yK hb)).1).trans hb, r⟩, h1, h2, fun q hq => (hv q hq).loc (fun b hg hlt => ⟨(hf b (hs.sub q b hg).1 hlt).1, hg⟩), hs.loc hf⟩⟩
def Yu (E : Value → α → HP) (v : Value) : Option α → HP
  | some x => E v x
  | none => Emp
end

section
variable {κ α : Type} [DecidableEq κ] {enc : κ → Value} {E : Value → α → HP} {z : Value} {m : Nat} {X : κ → Option α} {k : κ} {v : Value} {G : Nat → Prop} {W w : World} {As : List HP}
theorem Sep.mapoNew {w' : World} (h : Sep G W As w) (hn : New w w' w.heap.size (.map #[] 0)) : Sep G W (MapO enc E w.heap.size (fun _ : κ => (none : Option α)) :: As) w' :=
  h.push hn.ext (f := fun i => i = w.heap.size) ⟨[], fun _ _ => False, rfl, ⟨#[], 0, hn.at_, stamped_empty 0, rfl, rfl⟩, fun _ => trivial, ⟨fun _ _ h => h.elim, fun _ _ _ _ h => h.elim⟩⟩ (fun i hi => by omega)
theorem Sep.mapoTake (h : Sep G W (MapO enc E m X :: As) w) (z : Value) (k : κ) : ∃ v, (X k = none → v = z) ∧ Sep G W (xE enc E z m X k v :: Yu E v (X k) :: As) w := by
  obtain ⟨fs, q1, q2⟩ := h.parts
  obtain ⟨⟨R, g, hm, hM, hv, hs⟩, hl⟩ := q1 0 _ rfl
  refine ⟨(ym R k).getD z, fun hx => ?_, ?_⟩
  · have := (hv k).isSome
    rw [hx] at this
    cases hR : ym R k with
    | none => rfl
    | some u => rw [hR] at this; cases this
  · have h1 : Sep G W (Star [xE enc E z m X k ((ym R k).getD z), Yu E ((ym R k).getD z) (X k)] :: As) w := by
      refine ⟨h.kept, fs, fun i C hC => ?_, fun i j hi hj => q2 i j (by simpa using hi) (by simpa using hj)⟩
      cases i with
      | succ i => exact q1 (i + 1) C (by simpa using hC)
      | zero =>
        simp only [List.getElem?_cons_zero, Option.some.injEq] at hC
        subst hC
        refine ⟨⟨fun i b => if i = 0 then fs 0 b ∧ ¬ g k b ∧ b < w.heap.size else g k b, fun i C hC => ?_, fun i j hi hj hne b hb => ?_⟩, hl⟩
        · match i, hC with
          | 0, hC =>
            simp only [List.getElem?_cons_zero, Option.some.injEq] at hC
            subst hC
            refine ⟨⟨R, fun q b => if q = k then False else g q b, ⟨hm, fun hg => (hs.sub k m hg).2.2 rfl, hM.lt⟩, hM, rfl, (hv k).isSome, fun q hq => ?_, ⟨fun q b hb => ?_, fun q q' hne b hb hb' => ?_⟩⟩, fun b hb => ⟨hb.1, hb.2.2⟩⟩
            · simp only [if_neg hq]; exact hv q
            · by_cases e : q = k
              · rw [if_pos e] at hb; exact hb.elim
              · rw [if_neg e] at hb
                have := hs.sub q b hb
                exact ⟨⟨this.1, fun h9 => hs.apart q k e b hb h9, this.2.1⟩, this.2.1, this.2.2⟩
            · by_cases e : q = k
              · rw [if_pos e] at hb; exact hb.elim
              · by_cases e' : q' = k
                · rw [if_pos e'] at hb'; exact hb'.elim
                · rw [if_neg e] at hb; rw [if_neg e'] at hb'; exact hs.apart q q' hne b hb hb'
          | 1, hC =>
            simp only [List.getElem?_cons_succ, List.getElem?_cons_zero, Option.some.injEq] at hC
            subst hC
            refine ⟨?_, fun b hb => ⟨(hs.sub k b hb).1, (hs.sub k b hb).2.1⟩⟩
            have := hv k
            cases hR : ym R k with
            | none =>
              rw [hR] at this
              cases hX : X k with
              | none => exact trivial
              | some x => rw [hX] at this; exact this.elim
            | some u =>
              rw [hR] at this
              cases hX : X k with
              | none => rw [hX] at this; exact this.elim
              | some x => rw [hX] at this; exact this
          | i + 2, hC => simp at hC
        · simp only [List.length_cons, List.length_nil] at hi hj
          match i, j, hb with
          | 0, 0, _ => exact absurd rfl hne
          | 0, 1, hb => exact hb.2.1
          | 1, 0, hb => exact fun h9 => h9.2.1 hb
          | 1, 1, _ => exact absurd rfl hne
          | i + 2, _, _ => omega
          | 0, j + 2, _ => omega
          | 1, j + 2, _ => omega
    exact h1.openStar
theorem ZW {f : Nat → Prop} {g : κ → Nat → Prop} {f0 f1 : Nat → Prop} {w1 : World} (hs : Spread w m f0 g) (h0 : ∀ b, f0 b → f b ∧ b < w.heap.size) (h1 : ∀ b, f1 b → f b ∧ b < w.heap.size) (hd : ∀ b, f0 b → ¬ f1 b) (hm : f0 m) (hz : w.heap.size ≤ w1.heap.size) : Spread w1 m f (fun q b => if q = k then f1 b else g q b) := by
  refine ⟨fun q b hb => ?_, fun q q' hne b hb hb' => ?_⟩
  · by_cases e : q = k
    · simp only [if_pos e] at hb
      exact ⟨(h1 b hb).1, Nat.lt_of_lt_of_le (h1 b hb).2 hz, fun e2 => hd m hm (e2 ▸ hb)⟩
    · simp only [if_neg e] at hb
      have := hs.sub q b hb
      exact ⟨(h0 b this.1).1, Nat.lt_of_lt_of_le this.2.1 hz, this.2.2⟩
  · by_cases e : q = k
    · simp only [if_pos e] at hb
      have e' : ¬ q' = k := fun e2 => hne (e.trans e2.symm)
      simp only [if_neg e'] at hb'
      exact hd b (hs.sub q' b hb').1 hb
    · simp only [if_neg e] at hb
      by_cases e' : q' = k
      · simp only [if_pos e'] at hb'
        exact hd b (hs.sub q b hb).1 hb'
      · simp only [if_neg e'] at hb'
        exact hs.apart q q' hne b hb hb'
theorem Sep.mapoPut (h : Sep G W (xE enc E z m X k v :: Yu E v (X k) :: As) w) : Sep G W (MapO enc E m X :: As) w := by
  have hst := h.closeStar (Bs := [xE enc E z m X k v, Yu E v (X k)])
  refine hst.impl (i := 0) rfl (fun f hA => ?_)
  obtain ⟨gs, r1, r2⟩ := hA
  obtain ⟨⟨R, g, hm, hM, hz, hi, hv, hs⟩, hf0⟩ := r1 0 _ rfl
  obtain ⟨hN, hf1⟩ := r1 1 _ rfl
  have r2' := r2 0 1 (by simp) (by simp) (by simp)
  refine ⟨R, fun q b => if q = k then gs 1 b else g q b, (hf0 m hm).1, hM, fun q => ?_, ZW hs hf0 hf1 r2' hm (Nat.le_refl _)⟩
  by_cases e : q = k
  · subst e
    simp only [if_true]
    cases hR : ym R q with
    | none =>
      rw [hR] at hi
      cases hX : X q with
      | none => exact trivial
      | some x => rw [hX] at hi; cases hi
    | some u =>
      rw [hR] at hi hz
      cases hX : X q with
      | none => rw [hX] at hi; cases hi
      | some x => rw [hX] at hN; simp only [Option.getD_some] at hz; subst hz; exact hN
  · simp only [if_neg e]
    exact hv q e
theorem Sep.mapo1 (h : Sep G W As w) {i : Nat} (hi : As[i]? = some (xE enc E z m X k v)) : ∃ R, IsMap enc w m R ∧ (ym R k).getD z = v ∧ (ym R k).isSome = (X k).isSome := by
  obtain ⟨f, ⟨R, g, hm, hM, hz, hi, _⟩, _⟩ := h.get hi; exact ⟨R, hM, hz, hi⟩
end

section
variable {P : Program} {d : Option Tmp} {ty : TypeId} {pos : String} {af : Array Edge} {gd : Option (Nat × Bool)} {σ : Env} {w : World} {K : Value → World → Prop} {κ α : Type} [DecidableEq κ] {enc : κ → Value} {E : Value → α → HP} {z : Value} {m : Nat} {X : κ → Option α} {k : κ} {v : Value} {G : Nat → Prop} {W : World} {As : List HP}
theorem Uy {t kt et : TypeId} {x y : Operand} {i : Nat} (h : Sep G W As w) (hi : As[i]? = some (xE enc E z m X k v)) (hK : KLaw P kt enc) (hU : P.underlying t = some (.map kt et)) (hZ : ∀ w, (zeroValue et).run P w = .ok z w)
    (hx : ev σ x = .map (some m)) (hy : ev σ y = enc k) (hk : K v w) : opV P ⟨d, .lookup t x y false, ty, pos, af, gd⟩ σ w K := by
  obtain ⟨R, hM, e, _⟩ := h.mapo1 hi
  exact VW hK hU hZ hx hy hM (by rw [e]; exact hk)
theorem Zt {t kt et : TypeId} {x y : Operand} {i : Nat} (h : Sep G W As w) (hi : As[i]? = some (xE enc E z m X k v)) (hK : KLaw P kt enc) (hU : P.underlying t = some (.map kt et)) (hZ : ∀ w, (zeroValue et).run P w = .ok z w)
    (hx : ev σ x = .map (some m)) (hy : ev σ y = enc k) (hk : K (.tuple #[v, .bool (X k).isSome]) w) : opV P ⟨d, .lookup t x y true, ty, pos, af, gd⟩ σ w K := by
  obtain ⟨R, hM, e, e2⟩ := h.mapo1 hi
  exact YA hK hU hZ hx hy hM (by rw [e, e2]; exact hk)
theorem ZP {t kt et : TypeId} {x y u : Operand} {v' : Value} {x' : α} (h : Sep G W (xE enc E z m X k v :: E v' x' :: As) w) (hK : KLaw P kt enc) (hU : P.underlying t = some (.map kt et)) (hx : ev σ x = .map (some m)) (hy : ev σ y = enc k) (hu : ev σ u = v')
    (hk : ∀ w1, Sep G W (MapO enc E m (Zr X k x') :: As) w1 → K undef w1) : opV P ⟨d, .mapUpdate t x y u, ty, pos, af, gd⟩ σ w K := by
  have hst := h.closeStar (Bs := [xE enc E z m X k v, E v' x'])
  obtain ⟨ff, q1, q2⟩ := hst.parts
  obtain ⟨⟨gs, r1, r2⟩, hl⟩ := q1 0 _ rfl
  obtain ⟨⟨R, g, hm, hM, hz, hi, hv, hs⟩, hf0⟩ := r1 0 _ rfl
  obtain ⟨hN, hf1⟩ := r1 1 _ rfl
  have r2' := r2 0 1 (by simp) (by simp) (by simp)
  refine XN hK hU hx hy hu hM (fun w1 hM1 hc => hk w1 ?_)
  have keep : ∀ b, b ≠ m → b < w.heap.size → w1.heap[b]? = w.heap[b]? := fun b hb hlt => hc.block b hlt hb
  have key : (MapO enc E m (Zr X k x')).p w1 (ff 0) := by
    refine ⟨Wt R k v', fun q b => if q = k then gs 1 b else g q b, (hf0 m hm).1, hM1, fun q => ?_, ZW hs hf0 hf1 r2' hm hc.size⟩
    rw [YT]
    unfold Zr
    by_cases e : q = k
    · subst e
      simp only [if_true]
      exact (E v' x').loc hN (fun b hb hlt => ⟨keep b (fun e2 => r2' m hm (e2 ▸ hb)) hlt, hb⟩)
    · simp only [if_neg e, if_neg (Ne.symm e)]
      exact (hv q e).loc (fun b hb hlt => ⟨keep b (hs.sub q b hb).2.2 hlt, hb⟩)
  refine ⟨hst.kept.chg hc (fun b hb => by subst hb; exact (hl _ (hf0 _ hm).1).1), ff, fun i C hC => ?_, fun i j hi hj => q2 i j (by simpa using hi) (by simpa using hj)⟩
  cases i with
  | zero =>
    simp only [List.getElem?_cons_zero, Option.some.injEq] at hC
    subst hC
    exact ⟨key, fun b hb => ⟨(hl b hb).1, Nat.lt_of_lt_of_le (hl b hb).2 hc.size⟩⟩
  | succ i =>
    obtain ⟨hp, hlp⟩ := q1 (i + 1) C (by simpa using hC)
    have hne : ∀ b, ff (i + 1) b → b ≠ m := fun b hb e2 => by
      subst e2
      exact q2 0 (i + 1) (by simp) (by have := (List.getElem?_eq_some_iff.1 hC).1; simpa using this) (by omega) _ (hf0 _ hm).1 hb
    exact ⟨C.loc hp (fun b hb hlt => ⟨keep b (hne b hb) hlt, hb⟩), fun b hb => ⟨(hlp b hb).1, Nat.lt_of_lt_of_le (hlp b hb).2 hc.size⟩⟩
theorem WB {t kt et : TypeId} {x y : Operand} (h : Sep G W (xE enc E z m X k v :: As) w) (hK : KLaw P kt enc) (hU : P.underlying t = some (.map kt et)) (hZ : ∀ w, (zeroValue et).run P w = .ok z w) (hx : ev σ x = .map (some m)) (hy : ev σ y = enc k)
    (hk : ∀ w1 s, Sep G W (Wi enc E m X k s :: As) w1 → K (.tuple #[v, .int .i64 s]) w1) : opV P ⟨d, .mapEntry t x y, ty, pos, af, gd⟩ σ w K := by
  obtain ⟨ff, q1, q2⟩ := h.parts
  obtain ⟨⟨R, g, hm, hM, hz, hi, hv, hs⟩, hl⟩ := q1 0 _ rfl
  refine WG hK hU hZ hx hy hM (fun w1 j s hM1 hset hp hc => ?_)
  rw [hz]
  refine hk w1 s ?_
  have keep : ∀ b, b ≠ m → b < w.heap.size → w1.heap[b]? = w.heap[b]? := fun b hb hlt => hc.block b hlt hb
  have key : (Wi enc E m X k s).p w1 (ff 0) := by
    refine ⟨VE R k z, g, j, hm, hM1, fun u q => ?_, hp, fun q hq => ?_, hs.loc2 hc.size⟩
    · rw [hset u, YT]
      by_cases e : k = q
      · rw [if_pos e, if_pos e]
      · rw [if_neg e, if_neg e, ZQ _ _ _ _ e]
    · rw [ZQ _ _ _ _ (Ne.symm hq)]
      exact (hv q hq).loc (fun b hb hlt => ⟨keep b (hs.sub q b hb).2.2 hlt, hb⟩)
  refine ⟨h.kept.chg hc (fun b hb => by subst hb; exact (hl _ hm).1), ff, fun i C hC => ?_, fun i j hi hj => q2 i j (by simpa using hi) (by simpa using hj)⟩
  cases i with
  | zero =>
    simp only [List.getElem?_cons_zero, Option.some.injEq] at hC
    subst hC
    exact ⟨key, fun b hb => ⟨(hl b hb).1, Nat.lt_of_lt_of_le (hl b hb).2 hc.size⟩⟩
  | succ i =>
    obtain ⟨hp, hlp⟩ := q1 (i + 1) C (by simpa using hC)
    have hne : ∀ b, ff (i + 1) b → b ≠ m := fun b hb e2 => by
      subst e2
      exact q2 0 (i + 1) (by simp) (by have := (List.getElem?_eq_some_iff.1 hC).1; simpa using this) (by omega) _ hm hb
    exact ⟨C.loc hp (fun b hb hlt => ⟨keep b (hne b hb) hlt, hb⟩), fun b hb => ⟨(hlp b hb).1, Nat.lt_of_lt_of_le (hlp b hb).2 hc.size⟩⟩
theorem YZ {t : TypeId} {x y u : Operand} {s : Int} {v' : Value} {x' : α} (h : Sep G W (Wi enc E m X k s :: E v' x' :: As) w) (hx : ev σ x = .map (some m)) (hy : ev σ y = .int .i64 s) (hu : ev σ u = v')
    (hk : ∀ w1, Sep G W (MapO enc E m (Zr X k x') :: As) w1 → K undef w1) : opV P ⟨d, .entryStore t x y u, ty, pos, af, gd⟩ σ w K := by
  have hst := h.closeStar (Bs := [Wi enc E m X k s, E v' x'])
  obtain ⟨ff, q1, q2⟩ := hst.parts
  obtain ⟨⟨gs, r1, r2⟩, hl⟩ := q1 0 _ rfl
  obtain ⟨⟨R, g, j, hm, hM, hset, ⟨p, hp, hpk⟩, hv, hs⟩, hf0⟩ := r1 0 _ rfl
  obtain ⟨hN, hf1⟩ := r1 1 _ rfl
  have r2' := r2 0 1 (by simp) (by simp) (by simp)
  refine YS hx hy hu hM hp (fun w1 hM1 hc => hk w1 ?_)
  rw [hpk] at hM1
  have keep : ∀ b, b ≠ m → b < w.heap.size → w1.heap[b]? = w.heap[b]? := fun b hb hlt => hc.block b hlt hb
  have key : (MapO enc E m (Zr X k x')).p w1 (ff 0) := by
    refine ⟨R.set j (k, v'), fun q b => if q = k then gs 1 b else g q b, (hf0 m hm).1, hM1, fun q => ?_, ZW hs hf0 hf1 r2' hm hc.size⟩
    rw [hset v' q]
    unfold Zr
    by_cases e : q = k
    · subst e
      simp only [if_true]
      exact (E v' x').loc hN (fun b hb hlt => ⟨keep b (fun e2 => r2' m hm (e2 ▸ hb)) hlt, hb⟩)
    · simp only [if_neg e, if_neg (Ne.symm e)]
      exact (hv q e).loc (fun b hb hlt => ⟨keep b (hs.sub q b hb).2.2 hlt, hb⟩)
  refine ⟨hst.kept.chg hc (fun b hb => by subst hb; exact (hl _ (hf0 _ hm).1).1), ff, fun i C hC => ?_, fun i j hi hj => q2 i j (by simpa using hi) (by simpa using hj)⟩
  cases i with
  | zero =>
    simp only [List.getElem?_cons_zero, Option.some.injEq] at hC
    subst hC
    exact ⟨key, fun b hb => ⟨(hl b hb).1, Nat.lt_of_lt_of_le (hl b hb).2 hc.size⟩⟩
  | succ i =>
    obtain ⟨hp, hlp⟩ := q1 (i + 1) C (by simpa using hC)
    have hne : ∀ b, ff (i + 1) b → b ≠ m := fun b hb e2 => by
      subst e2
      exact q2 0 (i + 1) (by simp) (by have := (List.getElem?_eq_some_iff.1 hC).1; simpa using this) (by omega) _ (hf0 _ hm).1 hb
    exact ⟨C.loc hp (fun b hb hlt => ⟨keep b (hne b hb) hlt, hb⟩), fun b hb => ⟨(hlp b hb).1, Nat.lt_of_lt_of_le (hlp b hb).2 hc.size⟩⟩
end
end Go.Proofs.YtbbabhaalmkbkaaGreatDoor
namespace Go.Proofs.YtbbabhaalmkbkaaGreatDoor

theorem WO {α : Type} {P : List α → Prop} (h0 : P []) (h1 : ∀ l x, P l → P (l ++ [x])) (l : List α) : P l := by
  rw [← List.reverse_reverse l]
  induction l.reverse with
  | nil => exact h0
  | cons x l ih => rw [List.reverse_cons]; exact h1 _ _ ih
def yx (v : List Int) (o : Int) : Int := if o < 0 ∨ (v.length : Int) ≤ o then 0 else max (v.getD o.toNat 0) 0
def Xa (a b : Ev) : Bool := decide (a.seq ≤ yx b.deps a.origin)
def Zz (a b : Ev) : Bool := !decide (a.origin = b.origin ∧ a.seq = b.seq) && !Xa a b && !Xa b a
def WS (k oA aA oB aB : Int) : Bool :=
  if k = 2 then decide (oA = 2) && decide (oB = 2) && !decide (oA = oB ∧ aA = aB)
  else if k = 4 then decide (oA = 5) && decide (oB = 5) && !decide (oA = oB ∧ aA = aB)
  else if k = 3 then (decide (oA = 3 ∧ aA = aB) && decide (oB = 4 ∧ aB = aA)) || (decide (oA = 4 ∧ aA = aB) && decide (oB = 3 ∧ aB = aA))
  else false
def xn (f : Fld) (x e : Ev) : Bool := (decide (f.policy = 2) || (decide (f.policy = 3) && decide (e.arg < x.arg))) && WS f.kind x.op x.arg e.op e.arg && Zz x e

def onL (k : Int × Int) (x : Ent) : Bool := !x.void && decide (x.ev.typ = k.1 ∧ x.ev.agg = k.2)
def on3 (k : Int × Int × Int) (x : Ent) : Bool := !x.void && decide (x.ev.typ = k.1 ∧ x.ev.agg = k.2.1 ∧ x.ev.field = k.2.2)
def xT (d : Dcl) (ty : Int) : Typ := d.types.getD ty.toNat default
def QM (t : Typ) : List Cel := List.replicate t.fields.length (⟨0, []⟩ : Cel)
def zY (d : Dcl) (k : Int × Int) (L : List Ent) : List Cel := L.foldl (fun c x => if onL k x then doL (xT d k.1) c x.ev.field x.ev.op x.ev.arg else c) (QM (xT d k.1))
def zU (k : Int × Int) (L : List Ent) : Nat := (L.filter (onL k)).length
def zX (k : Int × Int × Int) (L : List Ent) : List Ev := (L.filter (on3 k)).map (·.ev)
def yf (d : Dcl) (L : List Ent) (e : Ev) : Bool × Int × Int :=
  if ¬ yL d e.typ e.field e.op e.arg = 0 then (true, 0, 0)
  else match (zX (e.typ, e.agg, e.field) L).find? (fun x => xn ((xT d e.typ).fields.getD e.field.toNat default) x e) with
    | some x => (true, x.origin, x.seq)
    | none => if ¬ yP (xT d e.typ) (zY d (e.typ, e.agg) L) e.field e.op e.arg = 0 then (true, 0, 0) else (false, 0, 0)
def yA (d : Dcl) (L : List Ent) (e : Ev) : Ent := ⟨e, (yf d L e).1, (yf d L e).2.1, (yf d L e).2.2⟩
def zt (d : Dcl) (l : List Ev) : List Ent := l.foldl (fun L e => L ++ [yA d L e]) []
def zq (d : Dcl) (L : List Ent) : Int × Int → Option (Nat × List Cel) := fun k => if zU k L = 0 then none else some (zU k L, zY d k L)
def yw (L : List Ent) : Int × Int × Int → Option (List Ev) := fun k => if (zX k L).isEmpty then none else some (zX k L)
def Inv (d : Dcl) (L : List Ent) : Prop := ∀ ty ag : Int, 0 ≤ ty → ty < d.types.length → Right (xT d ty) (zY d (ty, ag) L)

theorem Yt (d : Dcl) (l : List Ev) (e : Ev) : zt d (l ++ [e]) = zt d l ++ [yA d (zt d l) e] := by unfold zt; rw [List.foldl_append]; rfl
theorem xM (d : Dcl) (k : Int × Int) (L : List Ent) (x : Ent) : zY d k (L ++ [x]) = if onL k x then doL (xT d k.1) (zY d k L) x.ev.field x.ev.op x.ev.arg else zY d k L := by unfold zY; rw [List.foldl_append]; rfl
theorem Yr (k : Int × Int) (L : List Ent) (x : Ent) : zU k (L ++ [x]) = if onL k x then zU k L + 1 else zU k L := by
  unfold zU
  rw [List.filter_append, List.length_append, List.filter_cons]
  split <;> simp
theorem Xl (k : Int × Int × Int) (L : List Ent) (x : Ent) : zX k (L ++ [x]) = if on3 k x then zX k L ++ [x.ev] else zX k L := by
  unfold zX
  rw [List.filter_append, List.filter_cons]
  split <;> simp
theorem Yo (k : Int × Int) (L : List Ent) : zU k L ≤ L.length := List.length_filter_le _ _
theorem Kk {d : Dcl} {k : Int × Int} : ∀ {L : List Ent}, zU k L = 0 → zY d k L = QM (xT d k.1) := by
  intro L
  induction L using WO with
  | h0 => intro _; rfl
  | h1 L x ih =>
    intro h
    rw [Yr] at h
    rw [xM]
    split
    · rename_i hx; rw [if_pos hx] at h; omega
    · rename_i hx; rw [if_neg hx] at h; exact ih h
theorem xl {d : Dcl} {L : List Ent} {x : Ent} (h : x.void = true) : zq d (L ++ [x]) = zq d L ∧ yw (L ++ [x]) = yw L := by
  constructor
  · funext k
    have : onL k x = false := by unfold onL; rw [h]; rfl
    unfold zq
    rw [Yr, xM, this]
    rfl
  · funext k
    have : on3 k x = false := by unfold on3; rw [h]; rfl
    unfold yw
    rw [Xl, this]
    rfl
theorem Vd {d : Dcl} {L : List Ent} {x : Ent} (h : x.void = false) : zq d (L ++ [x]) = Zr (zq d L) (x.ev.typ, x.ev.agg) (zU (x.ev.typ, x.ev.agg) L + 1, doL (xT d x.ev.typ) (zY d (x.ev.typ, x.ev.agg) L) x.ev.field x.ev.op x.ev.arg) := by
  funext k
  unfold zq Zr
  rw [Yr, xM]
  by_cases e : (x.ev.typ, x.ev.agg) = k
  · subst e
    have : onL (x.ev.typ, x.ev.agg) x = true := by unfold onL; rw [h]; simp
    rw [this]
    simp
  · have : onL k x = false := by
      unfold onL
      rw [h]
      have : ¬ (x.ev.typ = k.1 ∧ x.ev.agg = k.2) := fun h9 => e (by obtain ⟨a, b⟩ := k; obtain ⟨rfl, rfl⟩ := h9; rfl)
      simp [this]
    rw [this]
    simp [e]
theorem Qw {L : List Ent} {x : Ent} (h : x.void = false) : yw (L ++ [x]) = Zr (yw L) (x.ev.typ, x.ev.agg, x.ev.field) (zX (x.ev.typ, x.ev.agg, x.ev.field) L ++ [x.ev]) := by
  funext k
  unfold yw Zr
  rw [Xl]
  by_cases e : (x.ev.typ, x.ev.agg, x.ev.field) = k
  · subst e
    have : on3 (x.ev.typ, x.ev.agg, x.ev.field) x = true := by unfold on3; rw [h]; simp
    rw [this]
    simp
  · have : on3 k x = false := by
      unfold on3
      rw [h]
      have : ¬ (x.ev.typ = k.1 ∧ x.ev.agg = k.2.1 ∧ x.ev.field = k.2.2) := fun h9 => e (by obtain ⟨a, b, c⟩ := k; obtain ⟨rfl, rfl, rfl⟩ := h9; rfl)
      simp [this]
    rw [this]
    simp [e]
theorem VM (t : Typ) : Right t (QM t) := Un
theorem Inv.nil (d : Dcl) : Inv d [] := fun ty ag _ _ => VM _
theorem Qu {d : Dcl} {L : List Ent} {e : Ev} (h : (yf d L e).1 = false) : yL d e.typ e.field e.op e.arg = 0 ∧ yP (xT d e.typ) (zY d (e.typ, e.agg) L) e.field e.op e.arg = 0 := by
  unfold yf at h
  split at h
  · cases h
  rename_i h1
  split at h
  · cases h
  split at h
  · cases h
  rename_i h2
  exact ⟨Decidable.not_not.1 h1, Decidable.not_not.1 h2⟩
theorem Inv.snoc {d : Dcl} {L : List Ent} {e : Ev} (hd : DclOk d) (h : Inv d L) : Inv d (L ++ [yA d L e]) := by
  intro ty ag h0 h1
  rw [xM]
  split
  · rename_i hx
    unfold onL at hx
    simp only [Bool.and_eq_true, Bool.not_eq_true', decide_eq_true_eq] at hx
    obtain ⟨hv, ht, ha⟩ := hx
    obtain ⟨hf, hm⟩ := Qu (d := d) (L := L) (e := e) hv
    obtain ⟨f1, f2, hft⟩ := Wy hf
    have ht' : e.typ = ty := ht
    have ha' : e.agg = ag := ha
    subst ht' ha'
    exact KW hft (hd.typ _ (by omega)) (h e.typ e.agg h0 h1) (zaq hm)
  · exact h ty ag h0 h1
theorem Inv.run {d : Dcl} (hd : DclOk d) (l : List Ev) : Inv d (zt d l) := by
  induction l using WO with
  | h0 => exact Inv.nil d
  | h1 l e ih => rw [Yt]; exact ih.snoc hd
end Go.Proofs.YtbbabhaalmkbkaaGreatDoor
namespace Go.Proofs.YtbbabhaalmkbkaaGreatDoor
open Go.RowKit

instance {α : Type} [Rep α] : Rep (Bool × α) where
  k := Rep.k α
  rd w F cs x := Rep.rd w F cs x.2
  bytes := Rep.bytes α
  bpos := Rep.bpos
  kpos := Rep.kpos
  len h := Rep.len h
  one h := Rep.one h
  mono h hF := Rep.mono h hF
def mix {α : Type} [Rep α] (G : Nat → Prop) (W : World) : Src (Bool × α) :=
  ⟨fun cs x => if x.1 then (own (α := α)).el cs x.2 else (shr (α := α) G W).el cs x.2, fun {w f cs x} h => by
    split at h
    · exact (own (α := α)).len h
    · exact (shr (α := α) G W).len h, fun {w f cs x} h => by
    split at h
    · exact (own (α := α)).one h
    · exact (shr (α := α) G W).one h⟩
def xL {α : Type} (k : Nat) (l : List α) : List (Bool × α) := (l.take k).map (Prod.mk true) ++ (l.drop k).map (Prod.mk false)
theorem xv {α : Type} (k : Nat) (l : List α) : (xL k l).length = l.length := by unfold xL; simp; omega
theorem Ve {α : Type} {k i : Nat} {l : List α} (hk : k ≤ i) (hi : i < l.length) : (xL k l)[i]? = some (false, l[i]) := by
  unfold xL
  rw [List.getElem?_append_right (by simp; omega)]
  simp only [List.length_map, List.length_take, List.getElem?_map, List.getElem?_drop]
  rw [show k + (i - min k l.length) = i by omega, List.getElem?_eq_getElem hi]; rfl
theorem QI {α : Type} {k : Nat} {l : List α} (hk : k < l.length) : (xL k l).set k (true, l[k]) = xL (k + 1) l := by
  unfold xL
  rw [List.take_succ_eq_append_getElem hk, List.map_append, List.append_assoc, List.set_append_right _ _ (by simp only [List.length_map, List.length_take]; omega), List.drop_eq_getElem_cons hk]
  simp only [List.length_map, List.length_take, List.map_cons, List.map_nil, List.singleton_append]
  rw [show k - min k l.length = 0 by omega, List.set_cons_zero]
section
variable {α : Type} [Rep α] {G : Nat → Prop} {W w : World} {As : List HP} {T : TypeId} {v : Value} {l : List α}
theorem EP.mapIn {β : Type} {q : List Value → α → Prop} {q' : List Value → β → Prop} (g : α → β) (h : ∀ cs x, q cs x → q' cs (g x)) : ∀ {css : List (List Value)} {l : List α}, EP q css l → EP q' css (l.map g)
  | [], [], _ => trivial
  | _ :: _, _ :: _, hh => ⟨h _ _ hh.1, EP.mapIn g h hh.2⟩
  | [], _ :: _, hh => hh.elim
  | _ :: _, [], hh => hh.elim
theorem EP.mapOut {β : Type} {q : List Value → α → Prop} {q' : List Value → β → Prop} (g : α → β) (h : ∀ cs x, q' cs (g x) → q cs x) : ∀ {css : List (List Value)} {l : List α}, EP q' css (l.map g) → EP q css l
  | [], [], _ => trivial
  | _ :: _, _ :: _, hh => ⟨h _ _ hh.1, EP.mapOut g h hh.2⟩
  | [], _ :: _, hh => hh.elim
  | _ :: _, [], hh => hh.elim
theorem Sep.toMix (h : Sep G W (RowE (shr G W) T v l :: As) w) : Sep G W (RowE (mix (α := α) G W) T v (xL 0 l) :: As) w := by
  refine h.impl (i := 0) rfl (fun f hA => ?_)
  obtain ⟨css, hE, hown, hrow, hsm⟩ := hA
  have e : xL 0 l = l.map (Prod.mk false) := by unfold xL; simp
  rw [e]
  exact ⟨css, EP.mapIn (Prod.mk false) (fun cs x hx => hx) hE, by rw [List.length_map]; exact hown, hrow, by rw [List.length_map]; exact hsm⟩
theorem Sep.ofMix {n : Nat} (h : Sep G W (RowE (mix (α := α) G W) T v (xL n l) :: As) w) (hn : l.length ≤ n) : Sep G W (RowE (own (α := α)) T v l :: As) w := by
  refine h.impl (i := 0) rfl (fun f hA => ?_)
  have e : xL n l = l.map (Prod.mk true) := by unfold xL; rw [List.take_of_length_le hn, List.drop_of_length_le hn]; simp
  rw [e] at hA
  obtain ⟨css, hE, hown, hrow, hsm⟩ := hA
  exact ⟨css, EP.mapOut (Prod.mk true) (fun cs x hx => hx) hE, by rw [List.length_map] at hown; exact hown, hrow, by rw [List.length_map] at hsm; exact hsm⟩
theorem Sep.mixAt {i k j : Nat} (h : Sep G W As w) (hi : As[i]? = some (RowE (mix (α := α) G W) T v (xL k l))) (hk : k ≤ j) (hj : j < l.length) : ∃ cs, CellsAt w (sb v) (so v + j * Rep.k α) cs ∧ Rep.rd W G cs l[j] := by
  obtain ⟨cs, f, h1, h2⟩ := h.rowAt hi (j := j) (by rw [xv]; exact hj)
  have e : (xL k l)[j]'(by rw [xv]; exact hj) = (false, l[j]) := by
    have := Ve hk hj
    rw [List.getElem?_eq_getElem (by rw [xv]; exact hj)] at this
    exact Option.some.inj this
  rw [e] at h2
  exact ⟨cs, h1, h2⟩
end
section
variable {α : Type} [Rep α] {P : Program} {d : Option Tmp} {ty : TypeId} {pos : String} {af : Array Edge} {gd : Option (Nat × Bool)} {σ : Env} {w : World} {K : Value → World → Prop} {G : Nat → Prop} {W : World} {As : List HP} {N : HP} {T : TypeId} {v : Value} {l : List α}
theorem Wl {t : TypeId} {j o : Nat} {x y : Operand} {u : Value} {us : List Value} (h : Sep G W (RowE (mix (α := α) G W) T v (xL j l) :: N :: As) w) (hS : ∀ w, (sizeOf t).run P w = .ok us.length w) (hj : j < l.length)
    (hx : ev σ x = .pointer (some ⟨sb v, so v + j * Rep.k α + o, none⟩)) (hy : ev σ y = u) (hu : u.cells.toList = us) (ho : o + us.length ≤ Rep.k α) (h1 : ∀ u ∈ us, u.oneCell' = true)
    (hq : ∀ w f cs0, Rep.rd W G cs0 l[j] → N.p w f → ((own (α := α)).el (cs0.take o ++ us ++ cs0.drop (o + us.length)) l[j]).p w f)
    (hK : ∀ w', Sep G W (RowE (mix (α := α) G W) T v (xL (j + 1) l) :: As) w' → K undef w') : opV P ⟨d, .store t x y, ty, pos, af, gd⟩ σ w K := by
  have e : (xL j l)[j]'(by rw [xv]; exact hj) = (false, l[j]) := by
    have := Ve (Nat.le_refl j) hj
    rw [List.getElem?_eq_getElem (by rw [xv]; exact hj)] at this
    exact Option.some.inj this
  refine xk (α := Bool × α) (j := j) (o := o) (u := u) (us := us) (x1 := (true, l[j])) h hS (by rw [xv]; exact hj) hx hy hu ho h1 (fun w f cs0 hel hN => ?_) (fun w' h' => hK w' (by rw [QI hj] at h'; exact h'))
  rw [e] at hel
  exact hq w f cs0 hel hN
end
end Go.Proofs.YtbbabhaalmkbkaaGreatDoor
namespace Go.Proofs.YtbbabhaalmkbkaaGreatDoor

section
variable {P : Program} {n : Nat} {Q : xH} {σ : Env} {w : World} {ops : List Oper} {pre : List (List Nat)}

def yG : List Nat → (Nat → Bool) → Nat
  | [], _ => 0
  | s :: r, d => (if d s = true then 1 else 0) + 2 * yG r d
theorem Vj : ∀ (ss : List Nat) (d : Nat → Bool), yG ss d < 2 ^ ss.length
  | [], _ => Nat.one_pos
  | s :: r, d => by
    have := Vj r d
    simp only [yG, List.length_cons, Nat.pow_succ]
    split <;> omega
theorem Wd : ∀ (ss : List Nat) (d : Nat → Bool) (p s : Nat), ss[p]? = some s → (yG ss d).testBit p = d s
  | [], _, _, _, h => by simp at h
  | x :: r, d, 0, s, h => by
    simp only [List.getElem?_cons_zero, Option.some.injEq] at h
    subst h
    rw [Nat.testBit_zero, yG]
    cases h : d x <;> simp <;> omega
  | x :: r, d, p + 1, s, h => by
    have := Wd r d p s (by simpa using h)
    rw [Nat.testBit_succ, yG, show ((if d x = true then 1 else 0) + 2 * yG r d) / 2 = yG r d by split <;> omega]
    exact this
theorem Wm {ss : List Nat} {d : Nat → Bool} {i : Nat} (h : i ∉ ss) : yG ss (fun j => d j || j == i) = yG ss d := by
  induction ss with
  | nil => rfl
  | cons s r ih =>
    have hs : ¬ s = i := fun e => h (e ▸ List.mem_cons_self)
    simp only [yG]
    rw [ih (fun hm => h (List.mem_cons_of_mem _ hm))]
    simp [hs]
theorem QH {ss : List Nat} {d : Nat → Bool} {i : Nat} (hnd : ss.Nodup) (h : i ∈ ss) (hd : d i = false) : yG ss (fun j => d j || j == i) = yG ss d + 2 ^ ss.idxOf i := by
  induction ss with
  | nil => cases h
  | cons s r ih =>
    obtain ⟨h1, h2⟩ := List.nodup_cons.1 hnd
    by_cases e : s = i
    · subst e
      simp only [yG, List.idxOf_cons_self]
      rw [Wm h1]
      simp [hd]
      omega
    · have hm : i ∈ r := by
        rcases List.mem_cons.1 h with e2 | hm
        · exact absurd e2.symm e
        · exact hm
      simp only [yG]
      rw [ih h2 hm, show (s :: r).idxOf i = r.idxOf i + 1 by rw [List.idxOf_cons, show (s == i) = false from beq_eq_false_iff_ne.2 e]; rfl, Nat.pow_succ]
      simp [e]
      omega
theorem XV : ∀ {ss : List Nat} {d : Nat → Bool}, (∀ s ∈ ss, d s = true) → yG ss d = 2 ^ ss.length - 1
  | [], _, _ => rfl
  | s :: r, d, h => by
    have := XV (ss := r) (d := d) (fun q hq => h q (List.mem_cons_of_mem _ hq))
    have h2 : 0 < 2 ^ r.length := Nat.two_pow_pos _
    simp only [yG, List.length_cons, Nat.pow_succ, h s List.mem_cons_self, if_true, this]
    omega
theorem Xq : ∀ {ss : List Nat} {d : Nat → Bool}, (∀ s ∈ ss, d s = false) → yG ss d = 0
  | [], _, _ => rfl
  | s :: r, d, h => by
    have := Xq (ss := r) (d := d) (fun q hq => h q (List.mem_cons_of_mem _ hq))
    simp [yG, h s List.mem_cons_self, this]
def KH (pre : List (List Nat)) (ss : List Nat) (m i : Nat) : Bool := (List.range ss.length).all fun p => match ss.getD p 0 with
  | s => (!(pre.getD i []).contains s || m.testBit p) && (!(Nat.beq s i || (pre.getD s []).contains i) || !m.testBit p) && (!m.testBit p || (List.range ss.length).all fun r => !(pre.getD s []).contains (ss.getD r 0) || m.testBit r)
def maskOk (pre : List (List Nat)) (ss : List Nat) (sees : List (List Nat)) : Bool := (List.range sees.length).all fun i => (List.range (2 ^ ss.length)).all fun m => !KH pre ss m i || (sees.getD i []).contains m
theorem maskOk.mem {ss : List Nat} {sees : List (List Nat)} (h : maskOk pre ss sees = true) {i : Nat} (hi : i < sees.length) {done : Nat → Bool} (hc : closed pre done) (hd : done i = false) (hp : ∀ j ∈ pre.getD i [], done j = true) : yG ss done ∈ sees.getD i [] := by
  simp only [maskOk, List.all_eq_true, List.mem_range] at h
  have h1 := h i hi (yG ss done) (Vj _ _)
  have hcons : KH pre ss (yG ss done) i = true := by
    simp only [KH, List.all_eq_true, List.mem_range]
    intro p hp'
    have hb : ∀ r, r < ss.length → (yG ss done).testBit r = done (ss.getD r 0) := fun r hr => Wd ss done r _ (by rw [List.getD_eq_getElem?_getD, List.getElem?_eq_getElem hr]; rfl)
    simp only [Bool.and_eq_true, Bool.or_eq_true, Bool.not_eq_true', List.all_eq_true, List.mem_range]
    rw [hb p hp']
    refine ⟨⟨?_, ?_⟩, ?_⟩
    · cases hk : (pre.getD i []).contains (ss.getD p 0) with
      | false => exact .inl rfl
      | true => exact .inr (hp _ (List.contains_iff_mem.1 hk))
    · cases hk : (Nat.beq (ss.getD p 0) i || (pre.getD (ss.getD p 0) []).contains i) with
      | false => exact .inl rfl
      | true =>
        right
        rcases Bool.or_eq_true _ _ ▸ hk with h2 | h2
        · rw [Nat.eq_of_beq_eq_true h2]; exact hd
        · cases hds : done (ss.getD p 0) with
          | false => rfl
          | true => have := hc _ hds i (List.contains_iff_mem.1 h2); rw [hd] at this; cases this
    · cases hds : done (ss.getD p 0) with
      | false => exact .inl rfl
      | true =>
        right
        intro r hr
        rw [hb r hr]
        cases hk : (pre.getD (ss.getD p 0) []).contains (ss.getD r 0) with
        | false => exact .inl rfl
        | true => exact .inr (hc _ hds _ (List.contains_iff_mem.1 hk))
  rw [hcons] at h1
  simpa using h1

def Vf (P : Program) (ops : List Oper) (pre : List (List Nat)) (ss : List Nat) (sees : List (List Nat)) (W : Nat → (Nat → Value) → World → Prop) (A : Nat → (Nat → Value) → Prop) (σ : Env) : Nat → List Oper → Prop
  | _, [] => True
  | i, o :: rest => (∀ k vals w, k ∈ sees.getD i [] → W k vals w → (∀ j, j ∈ pre.getD i [] → A j vals) →
      if Region.wanted o (yl ops.toArray (YH ops (pre.getD i []) σ vals)) then opV P o (YH ops (pre.getD i []) σ vals) w (fun v w' => ∀ vals', vals' i = v → (∀ j, j ≠ i → vals' j = vals j) → (if ss.contains i then W (k + 2 ^ ss.idxOf i) vals' w' else w' = w) ∧ A i vals')
      else ∀ vals', vals' i = undef → (∀ j, j ≠ i → vals' j = vals j) → (if ss.contains i then W (k + 2 ^ ss.idxOf i) vals' w else True) ∧ A i vals') ∧
    Vf P ops pre ss sees W A σ (i + 1) rest

theorem QU {ss : List Nat} {sees : List (List Nat)} {W : Nat → (Nat → Value) → World → Prop} {A : Nat → (Nat → Value) → Prop} {i0 : Nat} : ∀ {l : List Oper}, Vf P ops pre ss sees W A σ i0 l → ∀ i o, l[i]? = some o → ∀ k vals w, k ∈ sees.getD (i0 + i) [] → W k vals w → (∀ j, j ∈ pre.getD (i0 + i) [] → A j vals) →
      if Region.wanted o (yl ops.toArray (YH ops (pre.getD (i0 + i) []) σ vals)) then opV P o (YH ops (pre.getD (i0 + i) []) σ vals) w (fun v w' => ∀ vals', vals' (i0 + i) = v → (∀ j, j ≠ i0 + i → vals' j = vals j) → (if ss.contains (i0 + i) then W (k + 2 ^ ss.idxOf (i0 + i)) vals' w' else w' = w) ∧ A (i0 + i) vals')
      else ∀ vals', vals' (i0 + i) = undef → (∀ j, j ≠ i0 + i → vals' j = vals j) → (if ss.contains (i0 + i) then W (k + 2 ^ ss.idxOf (i0 + i)) vals' w else True) ∧ A (i0 + i) vals' := by
  intro l
  induction l generalizing i0 with
  | nil => intro _ i o h; simp at h
  | cons x l ih =>
    intro h i o ho
    obtain ⟨h1, h2⟩ := h
    cases i with
    | zero => simp only [List.getElem?_cons_zero, Option.some.injEq] at ho; subst ho; exact h1
    | succ i =>
      have := ih h2 i o (by simpa using ho)
      rw [show i0 + 1 + i = i0 + (i + 1) by omega] at this
      exact this

theorem zbw {ss : List Nat} {sees : List (List Nat)} {W : Nat → (Nat → Value) → World → Prop} {A : Nat → (Nat → Value) → Prop} (hf : Fit ops pre ops.length) (hd : yJ n ops = true) (hkl : sees.length = ops.length) (hk : maskOk pre ss sees = true) (hsl : ∀ s ∈ ss, s < ops.length) (hnd : ss.Nodup)
    (hloc : ∀ k vals vals' w, (∀ s ∈ ss, vals' s = vals s) → W k vals w → W k vals' w)
    (hlocA : ∀ i vals vals', (∀ j, j = i ∨ j ∈ pre.getD i [] → vals' j = vals j) → A i vals → A i vals') (hob : Vf P ops pre ss sees W A σ 0 ops)
    (hfin : ∀ vals w', W (2 ^ ss.length - 1) vals w' → (∀ j, j < ops.length → A j vals) → Q .normal (behind ops vals σ ops.length) w') :
    ∀ (fuel : Nat) (listed : Array Bool) (a : Act) (vals : Nat → Value) (w : World), listed.size = ops.length → closed pre (dn listed) → (∀ j, dn listed j = true → j < ops.length) →
    ops.length ≤ cnt (dn listed) ops.length + fuel → Sim n (mixed ops (dn listed) vals σ) a → W (yG ss (dn listed)) vals w → (∀ j, dn listed j = true → A j vals) →
    wpAny P .any ops.toArray (fun e a' w' => ∃ σ'', Sim n σ'' a' ∧ Q e σ'' w') fuel listed a w := by
  have hend : ∀ (listed : Array Bool) (a : Act) (vals : Nat → Value) (w : World), (∀ j, j < ops.length → dn listed j = true) → (∀ j, dn listed j = true → j < ops.length) → Sim n (mixed ops (dn listed) vals σ) a → W (yG ss (dn listed)) vals w → (∀ j, dn listed j = true → A j vals) →
      ∃ σ'', Sim n σ'' a ∧ Q .normal σ'' w := by
    intro listed a vals w hall hlt hsim hW hA
    have hdn : dn listed = fun j => decide (j < ops.length) := by
      funext j
      rw [Bool.eq_iff_iff, decide_eq_true_eq]
      exact ⟨hlt j, hall j⟩
    have hst : yG ss (dn listed) = 2 ^ ss.length - 1 := XV fun s hs => hall s (hsl s hs)
    rw [hdn, ← Zm hf ops.length (Nat.le_refl _)] at hsim
    exact ⟨_, hsim, hfin vals w (hst ▸ hW) fun j hj => hA j (hall j hj)⟩
  intro fuel
  induction fuel with
  | zero =>
    intro listed a vals w hs hc hlt hfu hsim hW hA
    have hall := Xt (done := dn listed) (m := ops.length) (by omega)
    refine ⟨?_, hend listed a vals w hall hlt hsim hW hA⟩
    cases hr : Region.ready .any ops.toArray listed with
    | nil => rfl
    | cons i r =>
      have hi : i ∈ Region.ready .any ops.toArray listed := by rw [hr]; exact List.mem_cons_self
      obtain ⟨h1, o, ho, _⟩ := (ZF hs).1 hi
      have := hall i (List.getElem?_eq_some_iff.1 ho).1
      rw [h1] at this; cases this
  | succ fuel ih =>
    intro listed a vals w hs hc hlt hfu hsim hW hA
    refine ⟨fun hr => hend listed a vals w (XT hf hs hr) hlt hsim hW hA, fun i hi => ?_⟩
    obtain ⟨o, ho, hni, hpre⟩ := Ws hf hs hc hi
    have hilen := (List.getElem?_eq_some_iff.1 ho).1
    have hdst : ∀ d, o.dst = some d → d < n := by
      intro d hd'
      simp only [yJ, List.all_eq_true] at hd
      have := hd o (List.mem_of_getElem? ho)
      rw [hd'] at this
      simpa [Nat.blt_eq] using this
    have hv := Xi (σ := σ) (vals := vals) hf ho hc hni hpre
    have hbd := maskOk.mem hk (i := i) (by omega) hc hni hpre
    have hO := QU hob i o ho (yG ss (dn listed)) vals w
    simp only [Nat.zero_add] at hO
    have hO' := hO hbd hW (fun j hj => hA j (hpre j hj))
    have hset := JC hs ho
    have hnext : ∀ v a' w', (∀ vals', vals' i = v → (∀ j, j ≠ i → vals' j = vals j) → (if ss.contains i then W (yG ss (dn listed) + 2 ^ ss.idxOf i) vals' w' else W (yG ss (dn listed)) vals w') ∧ A i vals') → Sim n (Zj (mixed ops (dn listed) vals σ) o.dst v) a' →
        wpAny P .any ops.toArray (fun e a' w' => ∃ σ'', Sim n σ'' a' ∧ Q e σ'' w') fuel (listed.setIfInBounds i true) a' w' := by
      intro v a' w' hn hs'
      rw [YR hf ho hni v] at hs'
      obtain ⟨hWn, hAn⟩ := hn (fun j => if j = i then v else vals j) (if_pos rfl) (fun j hj => if_neg hj)
      refine ih _ a' (fun j => if j = i then v else vals j) w' (by simpa using hs) ?_ ?_ ?_ ?_ ?_ ?_
      · intro j hj j' hj'
        rw [hset] at hj ⊢
        simp only [Bool.or_eq_true, beq_iff_eq] at hj ⊢
        rcases hj with hj | rfl
        · exact .inl (hc j hj j' hj')
        · exact .inl (hpre j' hj')
      · intro j hj
        rw [hset] at hj
        simp only [Bool.or_eq_true, beq_iff_eq] at hj
        rcases hj with hj | rfl
        · exact hlt j hj
        · exact hilen
      · rw [hset, Wx hni, if_pos hilen]; omega
      · rw [hset]; exact hs'
      · rw [hset]
        by_cases hm : i ∈ ss
        · rw [if_pos (List.contains_iff_mem.2 hm)] at hWn
          rw [QH hnd hm hni]
          exact hWn
        · rw [if_neg (fun h => hm (List.contains_iff_mem.1 h))] at hWn
          rw [Wm hm]
          exact hloc _ _ _ _ (fun s hs => if_neg (fun e : s = i => hm (e ▸ hs))) hWn
      · intro j hj
        rw [hset] at hj
        simp only [Bool.or_eq_true, beq_iff_eq] at hj
        by_cases hji : j = i
        · subst hji; exact hAn
        · rcases hj with hj | hj
          · refine hlocA j vals _ (fun q hq => if_neg (fun e : q = i => ?_)) (hA j hj)
            subst e
            rcases hq with hq | hq
            · exact hji hq.symm
            · have := hc j hj q hq; rw [hni] at this; cases this
          · exact (hji hj).elim
    unfold wpOp
    simp only [List.getElem?_toArray, ho]
    rw [hsim.yielded, Yd (σ := YH ops (pre.getD i []) σ vals) hv]
    split
    · rename_i hw
      rw [if_pos hw] at hO'
      refine .inl (Ux hsim (K := fun σ'' w' => ∃ v, (∀ vals', vals' i = v → (∀ j, j ≠ i → vals' j = vals j) → (if ss.contains i then W (yG ss (dn listed) + 2 ^ ss.idxOf i) vals' w' else W (yG ss (dn listed)) vals w') ∧ A i vals') ∧ σ'' = Zj (mixed ops (dn listed) vals σ) o.dst v) ?_ hdst ?_)
      · rintro a' σ'' w' hs' ⟨v, h1, rfl⟩
        exact hnext v a' w' h1 hs'
      · unfold opP
        rw [Wo (hf.sel i o ho) hv]
        refine VF (fun v w' h => ⟨v, fun vals' h1 h2 => ?_, rfl⟩) hO'
        obtain ⟨h3, h4⟩ := h vals' h1 h2
        refine ⟨?_, h4⟩
        split
        · rename_i hm; rw [if_pos hm] at h3; exact h3
        · rename_i hm; rw [if_neg hm] at h3; subst h3; exact hW
    · rename_i hw
      rw [if_neg hw] at hO'
      refine hnext undef _ w (fun vals' h1 h2 => ?_) (hsim.put hdst undef)
      obtain ⟨h3, h4⟩ := hO' vals' h1 h2
      refine ⟨?_, h4⟩
      split
      · rename_i hm; rw [if_pos hm] at h3; exact h3
      · exact hW

theorem KS {id : Nat} (W : Nat → (Nat → Value) → World → Prop) (A : Nat → (Nat → Value) → Prop) (pre : List (List Nat)) (ss : List Nat) (sees : List (List Nat)) (hm : P.follows .mixedOrders = true) (hd : yJ n ops = true) (hok : drawOk ops pre ops.length = true)
    (hkl : sees.length = ops.length) (hk : maskOk pre ss sees = true) (hsl : (ss.all fun s => Nat.blt s ops.length) = true) (hnd : ss.Nodup)
    (hW : ∀ w0 : World, w0.heap = w.heap → w0.os = w.os → w0.tape = w.tape → w0.output = w.output ∧ w.drawn ≤ w0.drawn → ∀ vals, W 0 vals w0)
    (hloc : ∀ k vals vals' w, (∀ s ∈ ss, vals' s = vals s) → W k vals w → W k vals' w)
    (hlocA : ∀ i vals vals', (∀ j, j = i ∨ j ∈ pre.getD i [] → vals' j = vals j) → A i vals → A i vals')
    (hob : Vf P ops pre ss sees W A σ 0 ops)
    (hfin : ∀ vals w', W (2 ^ ss.length - 1) vals w' → (∀ j, j < ops.length → A j vals) → WPs P ops.toArray (Q .normal) [] (behind ops vals σ ops.length) w') :
    WP P n (.region id ops.toArray true) Q σ w := by
  intro a hs
  have hf := drawOk.fit hok
  have hz : dn (Array.replicate ops.toArray.size false) = fun _ => false := by
    funext i
    simp [dn, Array.getElem?_replicate]
    split <;> rfl
  refine wp_region_any hm ?_
  refine zbw (ss := ss) (vals := fun _ => undef) hf hd hkl hk (fun s hs => by
    have := (List.all_eq_true.1 hsl) s hs; simpa [Nat.blt_eq] using this) hnd hloc hlocA hob hfin _ _ a _ (by simp) ?_ ?_ ?_ ?_ ?_ ?_
  · intro i hi; rw [hz] at hi; cases hi
  · intro i hi; rw [hz] at hi; cases hi
  · simp
  · have : mixed ops (dn (Array.replicate ops.toArray.size false)) (fun _ => undef) σ = σ := by
      funext t
      exact xh fun j _ => by rw [hz]
    rw [this]; exact hs
  · have : yG ss (dn (Array.replicate ops.toArray.size false)) = 0 := Xq fun s _ => by rw [hz]
    rw [this]; exact hW { w with drawn := w.drawn + 1 } rfl rfl rfl ⟨rfl, Nat.le_succ _⟩ _
  · intro i hi; rw [hz] at hi; cases hi
end
theorem WD6 {P : Program} {n : Nat} {Q : xH} {σ : Env} {w W0 : World} {G0 : Nat → Prop} {As : List HP} {ops : List Oper} {id : Nat} (W : Nat → (Nat → Value) → World → Prop) (A : Nat → (Nat → Value) → Prop) (pre : List (List Nat)) (ss : List Nat) (sees : List (List Nat)) (hS : Sep G0 W0 As w)
    (hob : Vf P ops pre ss sees W A σ 0 ops)
    (hfin : ∀ vals w', W (2 ^ ss.length - 1) vals w' → (∀ j, j < ops.length → A j vals) → WPs P ops.toArray (Q .normal) [] (behind ops vals σ ops.length) w')
    (hlocA : ∀ i vals vals', (∀ j, j = i ∨ j ∈ pre.getD i [] → vals' j = vals j) → A i vals → A i vals' := by exact yW (by repeat first | exact trivial | refine ⟨dA, ?_⟩ | refine ⟨dT, ?_⟩))
    (hm : P.follows .mixedOrders = true := by kernel_rfl) (hd : yJ n ops = true := by kernel_rfl) (hok : drawOk ops pre ops.length = true := by kernel_rfl) (hkl : sees.length = ops.length := by rfl) (hk : maskOk pre ss sees = true := by kernel_rfl) (hsl : (ss.all fun s => Nat.blt s ops.length) = true := by kernel_rfl) (hnd : ss.Nodup := by decide)
    (h0 : ∀ vals w, Sep G0 W0 As w → W 0 vals w := by exact fun _ _ h => h)
    (hloc : ∀ k vals vals' w, (∀ s ∈ ss, vals' s = vals s) → W k vals w → W k vals' w := by
      intro k vals u w H h
      try simp only [List.mem_cons, List.not_mem_nil, forall_eq_or_imp, or_false, forall_eq] at H
      rcases k with _ | _ | _ | _ | _ | _ | _ | _ | _ | _ | _ | _ | _ | _ | _ | _ | _ | _ | _ | _ | _ | _ | _ | _ | _ | _ | _ | _ | _ | _ | _ | _ | _ | _
      all_goals first | exact h | exact trivial | (simp only [WF, List.getElem?_cons_zero, List.getElem?_cons_succ, H] at h ⊢; exact h)) :
    WP P n (.region id ops.toArray true) Q σ w := KS W A pre ss sees hm hd hok hkl hk hsl hnd (fun _ h1 h2 h3 h4 _ => h0 _ _ (hS.same h1 h2 h3 h4)) hloc hlocA hob hfin
end Go.Proofs.YtbbabhaalmkbkaaGreatDoor
set_option maxRecDepth 8000
set_option maxHeartbeats 4000000
namespace Go.Proofs.YtbbabhaalmkbkaaGreatDoor
open Go.Proofs Go.RowKit

theorem Wc (a b c d : Int) : (decide (a = c ∧ b = d)) = (a == c && b == d) := by
  by_cases h1 : a = c <;> by_cases h2 : b = d <;> simp [h1, h2]
theorem ck3 (w : World) (e : Bool) (n : Nat) (a : Int) : (Instr.checkKey e (n + 1) 3 (.int .i64 a)).run Tryz.prog w = .ok () w := MapKept.run_checkKey lR (show MapKept.IsKey (.int .i64) (.int .i64 a) from rfl) e n
def yI (k : Int × Int) : Value := .agg #[.int .i64 k.1, .int .i64 k.2]
def xA (k : Int × Int × Int) : Value := .agg #[.int .i64 k.1, .int .i64 k.2.1, .int .i64 k.2.2]
theorem K2 : KLaw Tryz.prog 85 yI where
  inj := by
    rintro ⟨a, b⟩ ⟨c, d⟩ h
    simp only [yI, Value.agg.injEq, Array.mk.injEq, List.cons.injEq, Value.int.injEq, true_and, and_true] at h
    rw [h.1, h.2]
  desc := ⟨_, Tryz.underlying85, fun _ _ => rfl⟩
  check := by
    intro w e k
    show (Instr.checkKey e 10000 85 (.agg #[.int .i64 k.1, .int .i64 k.2])).run Tryz.prog w = .ok () w
    rw [show (10000 : Nat) = 9998 + 1 + 1 from rfl, Instr.checkKey]
    simp [go_sem, ck3]
  eql := by
    rintro w ⟨a, b⟩ ⟨c, d⟩
    rw [show decide ((a, b) = (c, d)) = (a == c && b == d) by rw [← Wc]; simp]
    unfold Op.equal Op.maxDepth yI
    simp [go_sem]
    by_cases h1 : a = c <;> by_cases h2 : b = d <;> simp [h1, h2]
  stays := by intro k; simp [Instr.sameBits, yI]
theorem K3 : KLaw Tryz.prog 131 xA where
  inj := by
    rintro ⟨a, b, c⟩ ⟨d, e, f⟩ h
    simp only [xA, Value.agg.injEq, Array.mk.injEq, List.cons.injEq, Value.int.injEq, true_and, and_true] at h
    rw [h.1, h.2.1, h.2.2]
  desc := ⟨_, Tryz.underlying131, fun _ _ => rfl⟩
  check := by
    intro w e k
    show (Instr.checkKey e 10000 131 (.agg #[.int .i64 k.1, .int .i64 k.2.1, .int .i64 k.2.2])).run Tryz.prog w = .ok () w
    rw [show (10000 : Nat) = 9997 + 1 + 1 + 1 from rfl, Instr.checkKey]
    simp [go_sem, ck3]
    rw [Instr.checkKey]
    simp [go_sem, ck3]
  eql := by
    rintro w ⟨a, b, c⟩ ⟨d, e, f⟩
    rw [show decide ((a, b, c) = (d, e, f)) = (a == d && b == e && c == f) by by_cases h1 : a = d <;> by_cases h2 : b = e <;> by_cases h3 : c = f <;> simp [h1, h2, h3]]
    unfold Op.equal Op.maxDepth xA
    simp [go_sem]
    by_cases h1 : a = d <;> by_cases h2 : b = e <;> by_cases h3 : c = f <;> simp [h1, h2, h3]
  stays := by intro k; simp [Instr.sameBits, xA]

def E1 (v : Value) (x : Nat × List Cel) : HP := ⟨fun w f => ∃ vc, v = .agg #[.int .i64 ((x.1 : Nat) : Int), vc] ∧ (RowE (α := Cel) own 99 vc x.2).p w f, fun h hf => by
  obtain ⟨vc, h1, h2⟩ := h
  exact ⟨vc, h1, HP.loc _ h2 hf⟩⟩
def E2 (v : Value) (l : List Ev) : HP := RowE (α := Ev) own 41 v l
def VG : Value := .agg #[.int .i64 0, .slice none 0 0]
def ViewO (b : Nat) (d : Dcl) (L M : List Ent) : HP := Ex1 fun vt => Ex1 fun vp => Ex1 fun ve => Ex1 fun m1 => Ex1 fun m2 => Star [Blk b #[vt, vp, ve, .map (some m1), .map (some m2)] 83, RowE (α := Typ) own 53 vt d.types, RowE (α := Prj) own 115 vp d.projs, RowE (α := Ent) own 57 ve L, MapO yI E1 m1 (zq d M), MapO xA E2 m2 (yw M)]
section
variable {G : Nat → Prop} {W w : World} {As : List HP} {b : Nat} {d : Dcl} {L M : List Ent}
theorem ViewO.open (h : Sep G W (ViewO b d L M :: As) w) : ∃ vt vp ve m1 m2, Sep G W (Blk b #[vt, vp, ve, .map (some m1), .map (some m2)] 83 :: RowE (α := Typ) own 53 vt d.types :: RowE (α := Prj) own 115 vp d.projs :: RowE (α := Ent) own 57 ve L :: MapO yI E1 m1 (zq d M) :: MapO xA E2 m2 (yw M) :: As) w := by
  obtain ⟨vt, h⟩ := h.openEx
  obtain ⟨vp, h⟩ := h.openEx
  obtain ⟨ve, h⟩ := h.openEx
  obtain ⟨m1, h⟩ := h.openEx
  obtain ⟨m2, h⟩ := h.openEx
  exact ⟨vt, vp, ve, m1, m2, h.openStar⟩
theorem ViewO.close {vt vp ve : Value} {m1 m2 : Nat} (h : Sep G W (Blk b #[vt, vp, ve, .map (some m1), .map (some m2)] 83 :: RowE (α := Typ) own 53 vt d.types :: RowE (α := Prj) own 115 vp d.projs :: RowE (α := Ent) own 57 ve L :: MapO yI E1 m1 (zq d M) :: MapO xA E2 m2 (yw M) :: As) w) : Sep G W (ViewO b d L M :: As) w := by
  have h := Sep.closeStar (Bs := [Blk b #[vt, vp, ve, .map (some m1), .map (some m2)] 83, RowE (α := Typ) own 53 vt d.types, RowE (α := Prj) own 115 vp d.projs, RowE (α := Ent) own 57 ve L, MapO yI E1 m1 (zq d M), MapO xA E2 m2 (yw M)]) h
  exact Sep.closeEx (A := fun vt => Ex1 fun vp => Ex1 fun ve => Ex1 fun m1 => Ex1 fun m2 => Star [Blk b #[vt, vp, ve, .map (some m1), .map (some m2)] 83, RowE (α := Typ) own 53 vt d.types, RowE (α := Prj) own 115 vp d.projs, RowE (α := Ent) own 57 ve L, MapO yI E1 m1 (zq d M), MapO xA E2 m2 (yw M)]) vt (Sep.closeEx (A := fun vp => Ex1 fun ve => Ex1 fun m1 => Ex1 fun m2 => Star [Blk b #[vt, vp, ve, .map (some m1), .map (some m2)] 83, RowE (α := Typ) own 53 vt d.types, RowE (α := Prj) own 115 vp d.projs, RowE (α := Ent) own 57 ve L, MapO yI E1 m1 (zq d M), MapO xA E2 m2 (yw M)]) vp (Sep.closeEx (A := fun ve => Ex1 fun m1 => Ex1 fun m2 => Star [Blk b #[vt, vp, ve, .map (some m1), .map (some m2)] 83, RowE (α := Typ) own 53 vt d.types, RowE (α := Prj) own 115 vp d.projs, RowE (α := Ent) own 57 ve L, MapO yI E1 m1 (zq d M), MapO xA E2 m2 (yw M)]) ve (Sep.closeEx (A := fun m1 => Ex1 fun m2 => Star [Blk b #[vt, vp, ve, .map (some m1), .map (some m2)] 83, RowE (α := Typ) own 53 vt d.types, RowE (α := Prj) own 115 vp d.projs, RowE (α := Ent) own 57 ve L, MapO yI E1 m1 (zq d M), MapO xA E2 m2 (yw M)]) m1 (Sep.closeEx (A := fun m2 => Star [Blk b #[vt, vp, ve, .map (some m1), .map (some m2)] 83, RowE (α := Typ) own 53 vt d.types, RowE (α := Prj) own 115 vp d.projs, RowE (α := Ent) own 57 ve L, MapO yI E1 m1 (zq d M), MapO xA E2 m2 (yw M)]) m2 h))))
theorem Jp {v : Value} {k : Int × Int × Int} (h : Sep G W (Yu E2 v (yw M k) :: As) w) (hv : yw M k = none → v = .slice none 0 0) : Sep G W (RowE (α := Ev) own 41 v (zX k M) :: As) w := by
  refine h.impl (i := 0) rfl (fun f hA => ?_)
  unfold yw at hA hv
  split at hA
  · rename_i he
    rw [if_pos he] at hv
    rw [hv rfl, List.isEmpty_iff.1 he]
    exact RowE.nil _ _ _ _
  · exact hA
theorem Wa {v : Value} {k : Int × Int × Int} (h : Sep G W (RowE (α := Ev) own 41 v (zX k M) :: As) w) : Sep G W (Yu E2 v (yw M k) :: As) w := by
  refine h.impl (i := 0) rfl (fun f hA => ?_)
  unfold yw
  split
  · exact trivial
  · exact hA
def stL (d : Dcl) (k : Int × Int) (M : List Ent) : List Cel := if zU k M = 0 then [] else zY d k M
theorem Wb {v : Value} {k : Int × Int} (h : Sep G W (Yu E1 v (zq d M k) :: As) w) (hv : zq d M k = none → v = VG) : ∃ vc, v = .agg #[.int .i64 ((zU k M : Nat) : Int), vc] ∧ Sep G W (RowE (α := Cel) own 99 vc (stL d k M) :: As) w := by
  unfold zq at h hv
  unfold stL
  by_cases he : zU k M = 0
  · rw [if_pos he] at hv h
    rw [if_pos he]
    refine ⟨.slice none 0 0, by rw [hv rfl, he]; rfl, h.impl (i := 0) rfl (fun f _ => RowE.nil _ _ _ _)⟩
  · rw [if_neg he] at h
    rw [if_neg he]
    obtain ⟨f, ⟨vc, h1, h2⟩, _⟩ := h.get (i := 0) rfl
    refine ⟨vc, h1, h.impl (i := 0) rfl (fun f hA => ?_)⟩
    obtain ⟨vc', h3, h4⟩ := hA
    rw [h1] at h3
    simp only [Value.agg.injEq, Array.mk.injEq, List.cons.injEq, and_true, true_and] at h3
    rw [h3]
    exact h4
theorem Uj {vc : Value} {k : Int × Int} (h : Sep G W (RowE (α := Cel) own 99 vc (stL d k M) :: As) w) : Sep G W (Yu E1 (.agg #[.int .i64 ((zU k M : Nat) : Int), vc]) (zq d M k) :: As) w := by
  refine h.impl (i := 0) rfl (fun f hA => ?_)
  unfold zq
  unfold stL at hA
  by_cases he : zU k M = 0
  · rw [if_pos he]; exact trivial
  · rw [if_neg he] at hA ⊢; exact ⟨vc, rfl, hA⟩
theorem QA {vc : Value} {n : Nat} {c : List Cel} (h : Sep G W (RowE (α := Cel) own 99 vc c :: As) w) : Sep G W (E1 (.agg #[.int .i64 ((n : Nat) : Int), vc]) (n, c) :: As) w := h.impl (i := 0) rfl (fun f hA => ⟨vc, rfl, hA⟩)
end

end Go.Proofs.YtbbabhaalmkbkaaGreatDoor
set_option maxRecDepth 8000
set_option maxHeartbeats 4000000
namespace Go.Proofs.YtbbabhaalmkbkaaGreatDoor
open Go.Proofs Go.RowKit

theorem WJ {G : Nat → Prop} {W w : World} {Rs : List HP} {vv : Value} {v : List Int} (hv : RdS W G vv v) {o : Int} (ho : InR o) (hS0 : Sep G W Rs w) : Ret Tryz.prog 53 [vv, .int .i64 (o)] w (fun r w' => r = (.int .i64 (yx v o) : Value) ∧ (InR (yx v o)) ∧ Sep G W Rs w') := by
 have hvs : _ * 8 ≤ _ := hv.small
 refine zi (args := [vv, Iv o]) Tryz.func53 rfl rfl ?_
 refine za (R0 fun _ => st (aS (Iv 0) (zd (za (za (zv kr (st (mV (Iv o) (st (zF (k := .i64) (a := o) (b := 0) rfl rfl (st (mV (.bool (decide (o < 0))) (stc (V := Iv o) rfl rfl (fun l => ?_) ?_)))))))))))))
 have hl2 := fD l
 exact mV (Iv o) ⟨rfl, rfl⟩
 refine stc (V := vv) rfl rfl (fun m => ?_) ?_
 have hl4 := fD m
 exact mV vv ⟨rfl, rfl⟩
 refine stc (V := Iw v.length) rfl rfl (fun g => ?_) ?_
 have hl6 := fD g
 exact zL (n := v.length) rR (if_pos g) hv.sl ⟨rfl, rfl⟩
 refine stc (V := .bool (decide (((v.length : Nat) : Int) ≤ o))) rfl rfl (fun c => ?_) ?_
 have hl8 := fD c
 exact xo (k := .i64) (a := o) (b := ((v.length : Nat) : Int)) (if_pos c) (if_pos c) ⟨rfl, rfl⟩
 refine st (zo (b := decide (o < 0)) (b' := decide (((v.length : Nat) : Int) ≤ o)) rfl (fun hbp => (if_pos hbp)) (zd ?_))
 cases h : (decide (o < 0)) || (decide (((v.length : Nat) : Int) ≤ o))
 try simp only [ze] at h
 refine zg rfl (zl (za (R0 fun _ => st (mV vv (st (mV (Iv o) ?_))))))
 have hi10 : o.toNat < v.length := bo
 refine st (zz (k := 1) (i := o) rR Tryz.sizeOf3 rfl hv.sl rfl ⟨by omega, by omega⟩ ?_)
 have d : o.toNat < v.length := bo
 obtain ⟨e, hxe11⟩ := hv.intD d
 have f := hS0.cells e (hv.foot (ne_of_lt d))
 refine st (lD (Iv ((v.getD o.toNat 0))) kT rfl (f.get (j := 0) rfl) (st (Yx (k := .i64) (a := (v.getD o.toNat 0)) (b := 0) rfl rfl (st (aS (Iv (max (v.getD o.toNat 0) 0)) (zd (zk (zG nY (show _ = (Iv (max (v.getD o.toNat 0) 0) : Value) from rfl) ?_))))))))
 refine ⟨?_, ?_, hS0⟩
 unfold yx; rw [if_neg (by omega)]
 unfold yx; rw [if_neg (by omega)]; omega
 try simp only [ze] at h
 refine zh rfl (za (R0 fun _ => st (aS (Iv 0) (zd (zk (zG nY (show _ = (Iv 0 : Value) from rfl) ?_))))))
 refine ⟨?_, ?_, hS0⟩
 unfold yx; rw [if_pos (by omega)]
 unfold yx; rw [if_pos (by omega)]; omega

theorem Vq {G : Nat → Prop} {W w : World} {Rs : List HP} {a : Ev} {da0 : Value} (hda0 : RdS W G da0 a.deps) (oa : a.Ok) {b : Ev} {db0 : Value} (hdb0 : RdS W G db0 b.deps) (ob : b.Ok) (hS0 : Sep G W Rs w) : Ret Tryz.prog 100 [.agg (a.cells da0).toArray, .agg (b.cells db0).toArray] w (fun r w' => r = (.bool ((Xa a b)) : Value) ∧ Sep G W Rs w') := by
 have hda0s : _ * 8 ≤ _ := hda0.small
 have hdb0s : _ * 8 ≤ _ := hdb0.small
 refine zi (args := [.agg (a.cells da0).toArray, .agg (b.cells db0).toArray]) Tryz.func100 rfl rfl ?_
 refine za (R0 fun _ => st (zH (v := .agg (a.cells da0).toArray) rfl ?_))
 intro w3 b2 L
 refine st (zH (v := .agg (b.cells db0).toArray) rfl ?_)
 intro w7 D M
 refine st (aS (.bool false) (zd (za ?_)))
 refine WD4 ((fun TT C => WF [fun vals E => Sep G W (C :: TT) E, fun vals E => (vals 5 = (Iv (yx b.deps a.origin) : Value)) ∧ (InR (yx b.deps a.origin)) ∧ Sep G W (C :: TT) E]) ((Blk b2 (a.cells da0).toArray 41) :: Rs) (Blk D (b.cells db0).toArray 41)) (AF [Vl 0 (Ix D 3), Vl 1 (db0), Vl 2 (Ix b2 0), Vl 3 (Ix b2 0), Vl 4 (Iv (a.origin)), fun _ => True, Vl 6 (Ix b2 0), Vl 7 (Ix b2 1), Vl 8 (Iv (a.seq)), Vl 9 (.bool (decide (a.seq ≤ (yx b.deps a.origin)))), Vl 10 (.bool (decide (a.seq ≤ (yx b.deps a.origin))))]) [[], [0], [], [2], [2, 3], (rg 5), [], [6], [6, 7], (rg 9), (rg 10)] [5] [(0, 0), (0, 0), (0, 0), (0, 0), (0, 0), (0, 0), (0, 1), (0, 1), (0, 1), (1, 1), (1, 1)] ((hS0.new L).new M) ⟨fun _ _ _ _ _ _ _ => obl rfl (xc rfl dR), ob1 0 fun _ _ (j : Sep _ _ _ _) l => obl rfl (lD db0 sR (l 0 dc) (zb (j.b0) rfl) dR), fun _ _ _ _ _ _ _ => obl rfl (yy rfl dR), fun _ _ _ _ _ _ m => obl rfl (xz (m 2 dc) dR), ob1 0 fun _ _ (n : Sep _ _ _ _) p => obl rfl (lD (Iv (a.origin)) kT (p 3 dc) (zb (n.b1) rfl) dR), ?_, fun _ _ _ _ _ _ _ => obl rfl (yy rfl dR), fun _ _ _ _ _ _ q => obl rfl (Zk (q 6 dc) dR), ?_, ?_, fun _ _ _ _ _ _ s => obl rfl (zR (v := .bool (decide (a.seq ≤ (yx b.deps a.origin)))) (s 9 dc) dR), trivial⟩ ?_
 refine ob1 0 fun vals _ (F : Sep _ _ _ _) i => (obl rfl ((zB (f := 53) (vals := [db0, Iv (a.origin)]) (cap := []) rfl (yE ⟨(i 1 dc), (i 4 dc), trivial⟩) Tryz.call53 (WJ (v := b.deps) (vv := db0) (o := a.origin) hdb0 oa.origin F) ?_)))
 rintro _ w54 ⟨rfl, c, H⟩
 exact fun vals' N hv' => ⟨(And.intro N (And.intro c H)), trivial⟩
 refine fun d _ _ I J g h => ?_
 have hkk : d = 0 ∨ d = 1 := by have h1 : 0 ≤ d := I; have h2 : d ≤ 1 := J; omega
 rcases hkk with rfl | rfl
 have t : Sep _ _ _ _ := g
 exact obl rfl (lD (Iv (a.seq)) kT (h 7 dc) (zb (t.b1) rfl) dR)
 obtain ⟨e, c, u⟩ := g
 exact obl rfl (lD (Iv (a.seq)) kT (h 7 dc) (zb (u.b1) rfl) dR)
 refine ob1 1 fun _ _ x y => ?_
 obtain ⟨e, c, hS157⟩ := x
 exact obl rfl (xo (k := .i64) (a := yx b.deps a.origin) (b := a.seq) e (y 8 dc) dR)
 intro vals w166 z A
 obtain ⟨e, c, B⟩ := z
 have K := A 10 dc
 refine zT (kv := [(0, .agg (a.cells da0).toArray), (1, .agg (b.cells db0).toArray), (2, Ix b2 0), (3, Ix D 0), (4, .bool (decide (a.seq ≤ (yx b.deps a.origin))))]) ⟨rfl, rfl, rfl, rfl, (by exact K), trivial⟩ (fun ρw166 => (zd (zk (zG Tryz.results100 (show _ = (.bool (decide (a.seq ≤ (yx b.deps a.origin))) : Value) from rfl) ?_))))
 refine ⟨rfl, (B.s2_)⟩

theorem eqS38 {x y : Operand} {a0 a1 b0 b1 : Int} : ∀ w, (do eqGuard .eql 38 x y (.agg #[.int .i64 a0, .int .i64 a1]) (.agg #[.int .i64 b0, .int .i64 b1]); binOp .eql 38 (.agg #[.int .i64 a0, .int .i64 a1]) (.agg #[.int .i64 b0, .int .i64 b1]) : Sem Value).run Tryz.prog w = .ok (.bool (decide (a0 = b0 ∧ a1 = b1))) w := by
  intro w
  have h : ∀ w, (Op.equal 38 (.agg #[.int .i64 a0, .int .i64 a1]) (.agg #[.int .i64 b0, .int .i64 b1])).run Tryz.prog w = .ok (decide (a0 = b0 ∧ a1 = b1)) w := by
    intro w
    unfold Op.equal Op.maxDepth; rw [Wc]; simp [go_sem]; (try (by_cases h1 : a0 = b0 <;> by_cases h2 : a1 = b1 <;> simp [h1, h2]))
  simp [eqGuard, binOp, h, go_sem]
theorem zaV {x y : Operand} {a0 a1 b0 b1 : Int} : ∀ w, (do eqGuard .neq 38 x y (.agg #[.int .i64 a0, .int .i64 a1]) (.agg #[.int .i64 b0, .int .i64 b1]); binOp .neq 38 (.agg #[.int .i64 a0, .int .i64 a1]) (.agg #[.int .i64 b0, .int .i64 b1]) : Sem Value).run Tryz.prog w = .ok (.bool (!decide (a0 = b0 ∧ a1 = b1))) w := by
  intro w
  have h : ∀ w, (Op.equal 38 (.agg #[.int .i64 a0, .int .i64 a1]) (.agg #[.int .i64 b0, .int .i64 b1])).run Tryz.prog w = .ok (decide (a0 = b0 ∧ a1 = b1)) w := by
    intro w
    unfold Op.equal Op.maxDepth; rw [Wc]; simp [go_sem]; (try (by_cases h1 : a0 = b0 <;> by_cases h2 : a1 = b1 <;> simp [h1, h2]))
  simp [eqGuard, binOp, h, go_sem]
theorem JR {G : Nat → Prop} {W w : World} {Rs : List HP} {a : Ev} {da0 : Value} (hda0 : RdS W G da0 a.deps) (oa : a.Ok) {b : Ev} {db0 : Value} (hdb0 : RdS W G db0 b.deps) (ob : b.Ok) (hS0 : Sep G W Rs w) : Ret Tryz.prog 81 [.agg (a.cells da0).toArray, .agg (b.cells db0).toArray] w (fun r w' => r = (.bool ((Zz a b)) : Value) ∧ Sep G W Rs w') := by
 have hda0s : _ * 8 ≤ _ := hda0.small
 have hdb0s : _ * 8 ≤ _ := hdb0.small
 refine zi (args := [.agg (a.cells da0).toArray, .agg (b.cells db0).toArray]) Tryz.func81 rfl rfl ?_
 refine za (R0 fun _ => st (zH (v := .agg (a.cells da0).toArray) rfl ?_))
 intro w3 b2 q
 refine st (zH (v := .agg (b.cells db0).toArray) rfl ?_)
 intro w7 b6 s
 have f := (hS0.new q).new s
 refine st (aS (.bool false) (zd (za (zv kr (st (yy rfl (st (zf (k := 2) (cs := [Iv (a.origin), Iv (a.seq)]) oY pY rfl rfl (CellsAt.sub (CellsAt.all (f.b1)) 0 (cs2 := [Iv (a.origin), Iv (a.seq)]) rfl) (st (yy rfl (st (zf (k := 2) (cs := [Iv (b.origin), Iv (b.seq)]) oY pY rfl rfl (CellsAt.sub (CellsAt.all (f.b0)) 0 (cs2 := [Iv (b.origin), Iv (b.seq)]) rfl) (st (WY (e := decide (a.origin = b.origin ∧ a.seq = b.seq)) (xs := #[Iv (a.origin), Iv (a.seq)]) (ys := #[Iv (b.origin), Iv (b.seq)]) zaV rfl rfl (st (mV (.bool (!decide (a.origin = b.origin ∧ a.seq = b.seq))) (stc (V := .agg (a.cells da0).toArray) rfl rfl (fun t => ?_) ?_)))))))))))))))))
 have hl10 := zC t
 exact zf (k := 10) pT oT rfl rfl (CellsAt.all (f.b1)) ⟨rfl, rfl⟩
 refine stc (V := .agg (b.cells db0).toArray) rfl rfl (fun j => ?_) ?_
 have hl12 := zC j
 exact zf (k := 10) pT oT rfl rfl (CellsAt.all (f.b0)) ⟨rfl, rfl⟩
 cases c : !decide (a.origin = b.origin ∧ a.seq = b.seq)
 have d := c
 have c := yp c
 refine stx rfl rfl (stx rfl rfl (st (zZ (v := .bool false) rfl rfl (st (mV (.bool false) (stx rfl rfl (stx rfl rfl (stx rfl rfl (stx rfl rfl (st (zZ (v := .bool false) rfl rfl (st (aS (.bool false) (zd (zk (zG tR (show _ = (.bool false : Value) from rfl) ?_))))))))))))))))
 refine ⟨?_, (f.s2_)⟩
 unfold Zz
 first | rfl | simp only [d, Bool.not_true, Bool.not_false, Bool.false_and, Bool.true_and, Bool.and_false]
 have d := c
 have c := zC c
 refine sty rfl rfl (cL qY (Vq (a := a) (b := b) hda0 oa hdb0 ob f) ?_)
 rintro _ w15 ⟨rfl, g⟩
 refine sty rfl rfl (yH (a := (Xa a b)) rfl (st (zQ (v := .bool (!(Xa a b))) rfl rfl (st (mV (.bool (!(Xa a b))) (stc (V := .agg (b.cells db0).toArray) rfl rfl (fun l => ?_) ?_))))))
 have m := l
 try simp only [ze] at m
 exact zf (k := 10) pT oT rfl rfl (CellsAt.all (g.b0)) ⟨rfl, rfl⟩
 refine stc (V := .agg (a.cells da0).toArray) rfl rfl (fun n => ?_) ?_
 have o := n
 try simp only [ze] at o
 exact zf (k := 10) pT oT rfl rfl (CellsAt.all (g.b1)) ⟨rfl, rfl⟩
 cases h : !(Xa a b)
 have i := h
 try simp only [ze] at h
 refine stx rfl rfl (stx rfl rfl (st (zZ (v := .bool false) rfl rfl (st (aS (.bool false) (zd (zk (zG tR (show _ = (.bool false : Value) from rfl) ?_))))))))
 refine ⟨?_, (g.s2_)⟩
 unfold Zz
 first | rfl | simp only [d, i, Bool.not_true, Bool.not_false, Bool.false_and, Bool.true_and, Bool.and_false]
 have i := h
 try simp only [ze] at h
 refine sty rfl rfl (cL qY (Vq (a := b) (b := a) hdb0 ob hda0 oa g) ?_)
 rintro _ w23 ⟨rfl, p⟩
 refine sty rfl rfl (yH (a := (Xa b a)) rfl (st (zQ (v := .bool (!(Xa b a))) rfl rfl (st (aS (.bool (!(Xa b a))) (zd (zk (zG tR (show _ = (.bool (!(Xa b a)) : Value) from rfl) ?_))))))))
 refine ⟨?_, (p.s2_)⟩
 unfold Zz
 first | rfl | simp only [d, i, Bool.not_true, Bool.not_false, Bool.false_and, Bool.true_and, Bool.and_false]

theorem WX {x y : Operand} {a0 a1 b0 b1 : Int} : ∀ w, (do eqGuard .eql 166 x y (.agg #[.int .i64 a0, .int .i64 a1]) (.agg #[.int .i64 b0, .int .i64 b1]); binOp .eql 166 (.agg #[.int .i64 a0, .int .i64 a1]) (.agg #[.int .i64 b0, .int .i64 b1]) : Sem Value).run Tryz.prog w = .ok (.bool (decide (a0 = b0 ∧ a1 = b1))) w := by
  intro w
  have h : ∀ w, (Op.equal 166 (.agg #[.int .i64 a0, .int .i64 a1]) (.agg #[.int .i64 b0, .int .i64 b1])).run Tryz.prog w = .ok (decide (a0 = b0 ∧ a1 = b1)) w := by
    intro w
    unfold Op.equal Op.maxDepth; rw [Wc]; simp [go_sem]; (try (by_cases h1 : a0 = b0 <;> by_cases h2 : a1 = b1 <;> simp [h1, h2]))
  simp [eqGuard, binOp, h, go_sem]
theorem UW {x y : Operand} {a0 a1 b0 b1 : Int} : ∀ w, (do eqGuard .neq 166 x y (.agg #[.int .i64 a0, .int .i64 a1]) (.agg #[.int .i64 b0, .int .i64 b1]); binOp .neq 166 (.agg #[.int .i64 a0, .int .i64 a1]) (.agg #[.int .i64 b0, .int .i64 b1]) : Sem Value).run Tryz.prog w = .ok (.bool (!decide (a0 = b0 ∧ a1 = b1))) w := by
  intro w
  have h : ∀ w, (Op.equal 166 (.agg #[.int .i64 a0, .int .i64 a1]) (.agg #[.int .i64 b0, .int .i64 b1])).run Tryz.prog w = .ok (decide (a0 = b0 ∧ a1 = b1)) w := by
    intro w
    unfold Op.equal Op.maxDepth; rw [Wc]; simp [go_sem]; (try (by_cases h1 : a0 = b0 <;> by_cases h2 : a1 = b1 <;> simp [h1, h2]))
  simp [eqGuard, binOp, h, go_sem]
theorem QB {G : Nat → Prop} {W w : World} {Rs : List HP} {f : Fld} {df0 : Value} (hdf0 : RdS W G df0 f.moves) (of : f.Ok) {oA : Int} (hoA : InR oA) {aA : Int} (haA : InR aA) {oB : Int} (hoB : InR oB) {aB : Int} (haB : InR aB) (hS0 : Sep G W Rs w) : Ret Tryz.prog 80 [.agg (f.cells df0).toArray, .int .i64 (oA), .int .i64 (aA), .int .i64 (oB), .int .i64 (aB)] w (fun r w' => r = (.bool ((WS f.kind oA aA oB aB)) : Value) ∧ Sep G W Rs w') := by
 have hdf0s : _ * 32 ≤ _ := hdf0.small
 refine zi (args := [.agg (f.cells df0).toArray, Iv oA, Iv aA, Iv oB, Iv aB]) Tryz.func80 rfl rfl ?_
 refine za (R0 fun _ => st (zH (v := .agg (f.cells df0).toArray) rfl ?_))
 intro w3 b2 ak
 refine st (aS (.bool false) (zd (za (yq (by kernel_rfl) (fun _ => (st (mV (Iv oA) (st (mV (Iv aA) (st (zI (parts' := [(0, Iv oA), (1, Iv aA)]) (v := .agg #[Iv oA, Iv aA]) rfl (by simp +zetaDelta [Instr.build, Instr.fill, Ev.cells, go_sem, Mv.cells, Fld.cells, Typ.cells, Prj.cells, Dcl.cells, Cel.cells, AskR.cells, CelS.cells, Ev.cells, Ent.cells, Sta.cells]) (st (mV (Iv oB) (st (mV (Iv aB) (st (zI (parts' := [(0, Iv oB), (1, Iv aB)]) (v := .agg #[Iv oB, Iv aB]) rfl (by simp +zetaDelta [Instr.build, Instr.fill, Ev.cells, go_sem, Mv.cells, Fld.cells, Typ.cells, Prj.cells, Dcl.cells, Cel.cells, AskR.cells, CelS.cells, Ev.cells, Ent.cells, Sta.cells]) (st (zr rY ?_)))))))))))))))))))
 intro w7 b6 al
 refine st (zr rY ?_)
 intro w11 E am
 have q := ((hS0.new ak).new al).new am
 refine stn (zp (v := .agg #[Iv oA, Iv aA]) (c' := #[Iv oA, Iv aA]) mT rfl rfl (q.b1) (zW ⟨rfl, rfl, trivial⟩) yqc rfl ?_)
 intro w13 F
 have s := q.pt1 F
 refine stn (zp (v := .agg #[Iv oB, Iv aB]) (c' := #[Iv oB, Iv aB]) mT rfl rfl (s.b0) (zW ⟨rfl, rfl, trivial⟩) yqc rfl ?_)
 intro w16 H
 have c := s.pt0 H
 refine zd (za (za (R0 fun _ => st (xr rfl (st (lD (Iv (f.kind)) kT rfl (zb (c.b2) rfl) (zd (zw (za (R0 fun _ => st (zN (k := .i64) (a := f.kind) (b := 2) rfl rfl (st (aS (.bool (decide (f.kind = 2))) (zd ?_))))))))))))))
 cases g : decide (f.kind = 2)
 have hc19r := g
 have g := fD g
 refine zg rfl (za (R0 fun _ => st (zN (k := .i64) (a := f.kind) (b := 4) rfl rfl (st (aS (.bool (decide (f.kind = 4))) (zd ?_))))))
 cases h : decide (f.kind = 4)
 have hc20r := h
 have h := fD h
 refine zg rfl (za (R0 fun _ => st (zN (k := .i64) (a := f.kind) (b := 3) rfl rfl (st (aS (.bool (decide (f.kind = 3))) (zd ?_))))))
 cases i : decide (f.kind = 3)
 have hc21r := i
 have i := fD i
 refine zg rfl (zl (za (R0 fun _ => st (aS (.bool false) (zd (zk (zG oR (show _ = (.bool false : Value) from rfl) ?_)))))))
 refine ⟨?_, (c.s3_)⟩
 unfold WS
 (first | rw [if_pos (by omega)] | rw [if_neg (by omega), if_pos (by omega)] | rw [if_neg (by omega), if_neg (by omega), if_pos (by omega)] | rw [if_neg (by omega), if_neg (by omega), if_neg (by omega)]) <;> (first | rfl | simp_all)
 have i := tD i
 refine zh rfl (za (zv (by kernel_rfl) (st (zf (k := 2) qT mT rfl rfl (CellsAt.all (c.b1)) (st (mV (Iv aB) (st (zI (parts' := [(0, Iv 3), (1, Iv aB)]) (v := .agg #[Iv 3, Iv aB]) rfl (by simp +zetaDelta [Instr.build, Instr.fill, Ev.cells, go_sem, Mv.cells, Fld.cells, Typ.cells, Prj.cells, Dcl.cells, Cel.cells, AskR.cells, CelS.cells, Ev.cells, Ent.cells, Sta.cells]) (st (Yl (e := decide (oA = 3 ∧ aA = aB)) (xs := #[Iv oA, Iv aA]) (ys := #[Iv 3, Iv aB]) WX rfl rfl (st (mV (.bool (decide (oA = 3 ∧ aA = aB))) (stc (V := .agg #[Iv oB, Iv aB]) rfl rfl (fun I => ?_) ?_)))))))))))))
 have hl24 := tD I
 exact zf (k := 2) qT mT rfl rfl (CellsAt.all (c.b0)) ⟨rfl, rfl⟩
 refine stc (V := Iv aA) rfl rfl (fun J => ?_) ?_
 have hl26 := tD J
 exact mV (Iv aA) ⟨rfl, rfl⟩
 refine stc (V := .agg #[Iv 4, Iv aA]) rfl rfl (fun t => ?_) ?_
 have hl28 := tD t
 exact zI (parts' := [(0, Iv 4), (1, Iv aA)]) (v := .agg #[Iv 4, Iv aA]) (Zq ⟨rfl, rfl, rfl, (if_pos t), trivial⟩) (by simp +zetaDelta [Instr.build, Instr.fill, Ev.cells, go_sem, Mv.cells, Fld.cells, Typ.cells, Prj.cells, Dcl.cells, Cel.cells, AskR.cells, CelS.cells, Ev.cells, Ent.cells, Sta.cells]) ⟨rfl, rfl⟩
 refine stc (V := .bool (decide (oB = 4 ∧ aB = aA))) rfl rfl (fun l => ?_) ?_
 have hl30 := tD l
 exact Yl (e := decide (oB = 4 ∧ aB = aA)) (xs := #[Iv oB, Iv aB]) (ys := #[Iv 4, Iv aA]) WX (if_pos l) (if_pos l) ⟨rfl, rfl⟩
 refine st (zy (b := decide (oA = 3 ∧ aA = aB)) (b' := decide (oB = 4 ∧ aB = aA)) rfl (fun hbp => (if_pos hbp)) (st (mV (.bool ((decide (oA = 3 ∧ aA = aB)) && (decide (oB = 4 ∧ aB = aA)))) (stc (V := .agg #[Iv oA, Iv aA]) rfl rfl (fun K => ?_) ?_))))
 have L := K
 try simp only [ze] at L
 exact zf (k := 2) qT mT rfl rfl (CellsAt.all (c.b1)) ⟨rfl, rfl⟩
 refine stc (V := Iv aB) rfl rfl (fun M => ?_) ?_
 have N := M
 try simp only [ze] at N
 exact mV (Iv aB) ⟨rfl, rfl⟩
 refine stc (V := .agg #[Iv 4, Iv aB]) rfl rfl (fun u => ?_) ?_
 have O := u
 try simp only [ze] at O
 exact zI (parts' := [(0, Iv 4), (1, Iv aB)]) (v := .agg #[Iv 4, Iv aB]) (Zq ⟨rfl, rfl, rfl, (if_pos u), trivial⟩) (by simp +zetaDelta [Instr.build, Instr.fill, Ev.cells, go_sem, Mv.cells, Fld.cells, Typ.cells, Prj.cells, Dcl.cells, Cel.cells, AskR.cells, CelS.cells, Ev.cells, Ent.cells, Sta.cells]) ⟨rfl, rfl⟩
 refine stc (V := .bool (decide (oA = 4 ∧ aA = aB))) rfl rfl (fun m => ?_) ?_
 have P := m
 try simp only [ze] at P
 exact Yl (e := decide (oA = 4 ∧ aA = aB)) (xs := #[Iv oA, Iv aA]) (ys := #[Iv 4, Iv aB]) WX (if_pos m) (if_pos m) ⟨rfl, rfl⟩
 refine stc (V := .bool (decide (oA = 4 ∧ aA = aB))) rfl rfl (fun x => ?_) ?_
 have Q := x
 try simp only [ze] at Q
 exact ya (v := .bool (decide (oA = 4 ∧ aA = aB))) (if_pos x) ⟨rfl, rfl⟩
 refine yO (V := .agg #[Iv oB, Iv aB]) rfl rfl (fun y => ?_) ?_
 have R := y.1
 try simp only [ze] at R
 have hl43 := tD y.2
 exact zf (k := 2) qT mT rfl rfl (CellsAt.all (c.b0)) ⟨rfl, rfl⟩
 refine yO (V := Iv aA) rfl rfl (fun z => ?_) ?_
 have S := z.1
 try simp only [ze] at S
 have hl46 := tD z.2
 exact mV (Iv aA) ⟨rfl, rfl⟩
 refine yO (V := .agg #[Iv 3, Iv aA]) rfl rfl (fun j => ?_) ?_
 have T := j.1
 try simp only [ze] at T
 have hl49 := tD j.2
 exact zI (parts' := [(0, Iv 3), (1, Iv aA)]) (v := .agg #[Iv 3, Iv aA]) (Zq ⟨rfl, rfl, rfl, (if_pos ⟨j.1, j.2⟩), trivial⟩) (by simp +zetaDelta [Instr.build, Instr.fill, Ev.cells, go_sem, Mv.cells, Fld.cells, Typ.cells, Prj.cells, Dcl.cells, Cel.cells, AskR.cells, CelS.cells, Ev.cells, Ent.cells, Sta.cells]) ⟨rfl, rfl⟩
 refine yO (V := .bool (decide (oB = 3 ∧ aB = aA))) rfl rfl (fun d => ?_) ?_
 have U := d.1
 try simp only [ze] at U
 have hl52 := tD d.2
 exact Yl (e := decide (oB = 3 ∧ aB = aA)) (xs := #[Iv oB, Iv aB]) (ys := #[Iv 3, Iv aA]) WX (if_pos ⟨d.1, d.2⟩) (if_pos ⟨d.1, d.2⟩) ⟨rfl, rfl⟩
 refine stc (V := .bool ((decide (oA = 4 ∧ aA = aB)) && (decide (oB = 3 ∧ aB = aA)))) rfl rfl (fun n => ?_) ?_
 have X := n
 try simp only [ze] at X
 exact zy (b := decide (oA = 4 ∧ aA = aB)) (b' := decide (oB = 3 ∧ aB = aA)) (if_pos n) (fun hbp => (if_pos ⟨n, hbp⟩)) ⟨rfl, rfl⟩
 refine st (zo (b := (decide (oA = 3 ∧ aA = aB)) && (decide (oB = 4 ∧ aB = aA))) (b' := (decide (oA = 4 ∧ aA = aB)) && (decide (oB = 3 ∧ aB = aA))) rfl (fun hbp => (if_pos hbp)) (st (aS (.bool (((decide (oA = 3 ∧ aA = aB)) && (decide (oB = 4 ∧ aB = aA))) || ((decide (oA = 4 ∧ aA = aB)) && (decide (oB = 3 ∧ aB = aA))))) (zd (zk (zG oR (show _ = (.bool (((decide (oA = 3 ∧ aA = aB)) && (decide (oB = 4 ∧ aB = aA))) || ((decide (oA = 4 ∧ aA = aB)) && (decide (oB = 3 ∧ aB = aA)))) : Value) from rfl) ?_))))))
 refine ⟨?_, (c.s3_)⟩
 unfold WS
 (first | rw [if_pos (by omega)] | rw [if_neg (by omega), if_pos (by omega)] | rw [if_neg (by omega), if_neg (by omega), if_pos (by omega)] | rw [if_neg (by omega), if_neg (by omega), if_neg (by omega)]) <;> (first | rfl | simp_all)
 have h := tD h
 refine zh rfl (za (zv kr (st (YN rfl (st (lD (Iv oA) kT rfl (zb (c.b1) rfl) (st (zN (k := .i64) (a := oA) (b := 5) rfl rfl (st (mV (.bool (decide (oA = 5))) (stc (V := Ix E 0) rfl rfl (fun Y => ?_) ?_)))))))))))
 have hl57 := tD Y
 exact YN rfl ⟨rfl, rfl⟩
 refine stc (V := Iv oB) rfl rfl (fun A => ?_) ?_
 have hl59 := tD A
 exact lD (Iv oB) kT (if_pos A) (zb (c.b0) rfl) ⟨rfl, rfl⟩
 refine stc (V := .bool (decide (oB = 5))) rfl rfl (fun B => ?_) ?_
 have hl61 := tD B
 exact zN (k := .i64) (a := oB) (b := 5) (if_pos B) rfl ⟨rfl, rfl⟩
 refine st (zy (b := decide (oA = 5)) (b' := decide (oB = 5)) rfl (fun hbp => (if_pos hbp)) (st (mV (.bool ((decide (oA = 5)) && (decide (oB = 5)))) (stc (V := .agg #[Iv oA, Iv aA]) rfl rfl (fun Z => ?_) ?_))))
 have aa := Z
 try simp only [ze] at aa
 exact zf (k := 2) qT mT rfl rfl (CellsAt.all (c.b1)) ⟨rfl, rfl⟩
 refine stc (V := .agg #[Iv oB, Iv aB]) rfl rfl (fun ab => ?_) ?_
 have ac := ab
 try simp only [ze] at ac
 exact zf (k := 2) qT mT rfl rfl (CellsAt.all (c.b0)) ⟨rfl, rfl⟩
 refine stc (V := .bool (!decide (oA = oB ∧ aA = aB))) rfl rfl (fun o => ?_) ?_
 have ad := o
 try simp only [ze] at ad
 exact WY (e := decide (oA = oB ∧ aA = aB)) (xs := #[Iv oA, Iv aA]) (ys := #[Iv oB, Iv aB]) UW (if_pos o) (if_pos o) ⟨rfl, rfl⟩
 refine st (zy (b := (decide (oA = 5)) && (decide (oB = 5))) (b' := !decide (oA = oB ∧ aA = aB)) rfl (fun hbp => (if_pos hbp)) (st (aS (.bool (((decide (oA = 5)) && (decide (oB = 5))) && (!decide (oA = oB ∧ aA = aB)))) (zd (zk (zG oR (show _ = (.bool (((decide (oA = 5)) && (decide (oB = 5))) && (!decide (oA = oB ∧ aA = aB))) : Value) from rfl) ?_))))))
 refine ⟨?_, (c.s3_)⟩
 unfold WS
 (first | rw [if_pos (by omega)] | rw [if_neg (by omega), if_pos (by omega)] | rw [if_neg (by omega), if_neg (by omega), if_pos (by omega)] | rw [if_neg (by omega), if_neg (by omega), if_neg (by omega)]) <;> (first | rfl | simp_all)
 have g := tD g
 refine zh rfl (za (zv kr (st (YN rfl (st (lD (Iv oA) kT rfl (zb (c.b1) rfl) (st (zN (k := .i64) (a := oA) (b := 2) rfl rfl (st (mV (.bool (decide (oA = 2))) (stc (V := Ix E 0) rfl rfl (fun ae => ?_) ?_)))))))))))
 have hl70 := tD ae
 exact YN rfl ⟨rfl, rfl⟩
 refine stc (V := Iv oB) rfl rfl (fun C => ?_) ?_
 have hl72 := tD C
 exact lD (Iv oB) kT (if_pos C) (zb (c.b0) rfl) ⟨rfl, rfl⟩
 refine stc (V := .bool (decide (oB = 2))) rfl rfl (fun D => ?_) ?_
 have hl74 := tD D
 exact zN (k := .i64) (a := oB) (b := 2) (if_pos D) rfl ⟨rfl, rfl⟩
 refine st (zy (b := decide (oA = 2)) (b' := decide (oB = 2)) rfl (fun hbp => (if_pos hbp)) (st (mV (.bool ((decide (oA = 2)) && (decide (oB = 2)))) (stc (V := .agg #[Iv oA, Iv aA]) rfl rfl (fun af => ?_) ?_))))
 have ag := af
 try simp only [ze] at ag
 exact zf (k := 2) qT mT rfl rfl (CellsAt.all (c.b1)) ⟨rfl, rfl⟩
 refine stc (V := .agg #[Iv oB, Iv aB]) rfl rfl (fun ah => ?_) ?_
 have ai := ah
 try simp only [ze] at ai
 exact zf (k := 2) qT mT rfl rfl (CellsAt.all (c.b0)) ⟨rfl, rfl⟩
 refine stc (V := .bool (!decide (oA = oB ∧ aA = aB))) rfl rfl (fun p => ?_) ?_
 have aj := p
 try simp only [ze] at aj
 exact WY (e := decide (oA = oB ∧ aA = aB)) (xs := #[Iv oA, Iv aA]) (ys := #[Iv oB, Iv aB]) UW (if_pos p) (if_pos p) ⟨rfl, rfl⟩
 refine st (zy (b := (decide (oA = 2)) && (decide (oB = 2))) (b' := !decide (oA = oB ∧ aA = aB)) rfl (fun hbp => (if_pos hbp)) (st (aS (.bool (((decide (oA = 2)) && (decide (oB = 2))) && (!decide (oA = oB ∧ aA = aB)))) (zd (zk (zG oR (show _ = (.bool (((decide (oA = 2)) && (decide (oB = 2))) && (!decide (oA = oB ∧ aA = aB))) : Value) from rfl) ?_))))))
 refine ⟨?_, (c.s3_)⟩
 unfold WS
 (first | rw [if_pos (by omega)] | rw [if_neg (by omega), if_pos (by omega)] | rw [if_neg (by omega), if_neg (by omega), if_pos (by omega)] | rw [if_neg (by omega), if_neg (by omega), if_neg (by omega)]) <;> (first | rfl | simp_all)

theorem zaw {G : Nat → Prop} {W w : World} {Rs : List HP} {f : Fld} {df0 : Value} (hdf0 : RdS W G df0 f.moves) (of : f.Ok) {x : Ev} {dx0 : Value} (hdx0 : RdS W G dx0 x.deps) (ox : x.Ok) {e : Ev} {de0 : Value} (hde0 : RdS W G de0 e.deps) (oe : e.Ok) (hS0 : Sep G W Rs w) : Ret Tryz.prog 60 [.agg (f.cells df0).toArray, .agg (x.cells dx0).toArray, .agg (e.cells de0).toArray] w (fun r w' => r = (.bool ((xn f x e)) : Value) ∧ Sep G W Rs w') := by
 have hdf0s : _ * 32 ≤ _ := hdf0.small
 have hdx0s : _ * 8 ≤ _ := hdx0.small
 have hde0s : _ * 8 ≤ _ := hde0.small
 refine zi (args := [.agg (f.cells df0).toArray, .agg (x.cells dx0).toArray, .agg (e.cells de0).toArray]) Tryz.func60 rfl rfl ?_
 refine za (R0 fun _ => st (zH (v := .agg (f.cells df0).toArray) rfl ?_))
 intro w3 b2 X
 refine st (zH (v := .agg (x.cells dx0).toArray) rfl ?_)
 intro w7 D Y
 refine st (zH (v := .agg (e.cells de0).toArray) rfl ?_)
 intro w11 o Z
 have c := ((hS0.new X).new Y).new Z
 refine st (aS (.bool false) (zd (za (zv kr (st (ZX rfl (st (lD (Iv (f.policy)) kT rfl (zb (c.b2) rfl) (st (zN (k := .i64) (a := f.policy) (b := 2) rfl rfl (st (mV (.bool (decide (f.policy = 2))) (stc (V := Ix b2 1) rfl rfl (fun E => ?_) ?_)))))))))))))
 have hl14 := fD E
 exact ZX rfl ⟨rfl, rfl⟩
 refine stc (V := Iv (f.policy)) rfl rfl (fun p => ?_) ?_
 have hl16 := fD p
 exact lD (Iv (f.policy)) kT (if_pos p) (zb (c.b2) rfl) ⟨rfl, rfl⟩
 refine stc (V := .bool (decide (f.policy = 3))) rfl rfl (fun q => ?_) ?_
 have hl18 := fD q
 exact zN (k := .i64) (a := f.policy) (b := 3) (if_pos q) rfl ⟨rfl, rfl⟩
 refine stc (V := .bool (decide (f.policy = 3))) rfl rfl (fun s => ?_) ?_
 have hl20 := fD s
 exact ya (v := .bool (decide (f.policy = 3))) (if_pos s) ⟨rfl, rfl⟩
 refine yO (V := Ix D 8) rfl rfl (fun t => ?_) ?_
 have hl22 := fD t.1
 have hl23 := tD t.2
 exact Zn rfl ⟨rfl, rfl⟩
 refine yO (V := Iv (x.arg)) rfl rfl (fun h => ?_) ?_
 have hl25 := fD h.1
 have hl26 := tD h.2
 exact lD (Iv (x.arg)) kT (if_pos ⟨h.1, h.2⟩) (zb (c.b1) rfl) ⟨rfl, rfl⟩
 refine yO (V := Ix o 8) rfl rfl (fun u => ?_) ?_
 have hl28 := fD u.1
 have hl29 := tD u.2
 exact Zn rfl ⟨rfl, rfl⟩
 refine yO (V := Iv (e.arg)) rfl rfl (fun i => ?_) ?_
 have hl31 := fD i.1
 have hl32 := tD i.2
 exact lD (Iv (e.arg)) kT (if_pos ⟨i.1, i.2⟩) (zb (c.b0) rfl) ⟨rfl, rfl⟩
 refine yO (V := .bool (decide (e.arg < x.arg))) rfl rfl (fun d => ?_) ?_
 have hl34 := fD d.1
 have hl35 := tD d.2
 exact yM (k := .i64) (a := x.arg) (b := e.arg) (if_pos ⟨d.1, d.2⟩) (if_pos ⟨d.1, d.2⟩) ⟨rfl, rfl⟩
 refine stc (V := .bool ((decide (f.policy = 3)) && (decide (e.arg < x.arg)))) rfl rfl (fun n => ?_) ?_
 have hl37 := fD n
 exact zy (b := decide (f.policy = 3)) (b' := decide (e.arg < x.arg)) (if_pos n) (fun hbp => (if_pos ⟨n, hbp⟩)) ⟨rfl, rfl⟩
 refine st (zo (b := decide (f.policy = 2)) (b' := (decide (f.policy = 3)) && (decide (e.arg < x.arg))) rfl (fun hbp => (if_pos hbp)) (st (aS (.bool ((decide (f.policy = 2)) || ((decide (f.policy = 3)) && (decide (e.arg < x.arg))))) (zd (za (zv kr (st (mV (.bool ((decide (f.policy = 2)) || ((decide (f.policy = 3)) && (decide (e.arg < x.arg))))) (st (mV (.bool ((decide (f.policy = 2)) || ((decide (f.policy = 3)) && (decide (e.arg < x.arg))))) (stc (V := .agg (f.cells df0).toArray) rfl rfl (fun F => ?_) ?_)))))))))))
 have H := F
 try simp only [ze] at H
 exact zf (k := 4) Tryz.isAgg110 pR rfl rfl (CellsAt.all (c.b2)) ⟨rfl, rfl⟩
 refine stc (V := Ix D 7) rfl rfl (fun I => ?_) ?_
 have J := I
 try simp only [ze] at J
 exact xK rfl ⟨rfl, rfl⟩
 refine stc (V := Iv (x.op)) rfl rfl (fun y => ?_) ?_
 have K := y
 try simp only [ze] at K
 exact lD (Iv (x.op)) kT (if_pos y) (zb (c.b1) rfl) ⟨rfl, rfl⟩
 refine stc (V := Ix D 8) rfl rfl (fun L => ?_) ?_
 have M := L
 try simp only [ze] at M
 exact Zn rfl ⟨rfl, rfl⟩
 refine stc (V := Iv (x.arg)) rfl rfl (fun z => ?_) ?_
 have N := z
 try simp only [ze] at N
 exact lD (Iv (x.arg)) kT (if_pos z) (zb (c.b1) rfl) ⟨rfl, rfl⟩
 refine stc (V := Ix o 7) rfl rfl (fun O => ?_) ?_
 have P := O
 try simp only [ze] at P
 exact xK rfl ⟨rfl, rfl⟩
 refine stc (V := Iv (e.op)) rfl rfl (fun A => ?_) ?_
 have Q := A
 try simp only [ze] at Q
 exact lD (Iv (e.op)) kT (if_pos A) (zb (c.b0) rfl) ⟨rfl, rfl⟩
 refine stc (V := Ix o 8) rfl rfl (fun R => ?_) ?_
 have S := R
 try simp only [ze] at S
 exact Zn rfl ⟨rfl, rfl⟩
 refine stc (V := Iv (e.arg)) rfl rfl (fun B => ?_) ?_
 have T := B
 try simp only [ze] at T
 exact lD (Iv (e.arg)) kT (if_pos B) (zb (c.b0) rfl) ⟨rfl, rfl⟩
 cases j : (decide (f.policy = 2)) || ((decide (f.policy = 3)) && (decide (e.arg < x.arg)))
 have g := j
 try simp only [ze] at j
 refine stx rfl rfl (st (zZ (v := .bool false) rfl rfl (st (mV (.bool false) (stx rfl rfl (stx rfl rfl (stx rfl rfl (st (zZ (v := .bool false) rfl rfl (st (aS (.bool false) (zd (zk (zG uR (show _ = (.bool false : Value) from rfl) ?_))))))))))))))
 refine ⟨?_, (c.s3_)⟩
 unfold xn
 first | rfl | simp only [g, Bool.false_and, Bool.true_and, Bool.and_false, Bool.and_true, Bool.true_or, Bool.or_true]
 have g := j
 try simp only [ze] at j
 refine sty rfl rfl (cL Tryz.call80 (QB (f := f) (oA := x.op) (aA := x.arg) (oB := e.op) (aB := e.arg) hdf0 of ox.op ox.arg oe.op oe.arg c) ?_)
 rintro _ w58 ⟨rfl, l⟩
 refine st (zQ (v := .bool ((WS f.kind x.op x.arg e.op e.arg))) rfl rfl (st (mV (.bool ((WS f.kind x.op x.arg e.op e.arg))) (stc (V := .agg (x.cells dx0).toArray) rfl rfl (fun hb60 => ?_) ?_))))
 exact zf (k := 10) pT oT rfl rfl (CellsAt.all (l.b1)) ⟨rfl, rfl⟩
 refine stc (V := .agg (e.cells de0).toArray) rfl rfl (fun hb62 => ?_) ?_
 exact zf (k := 10) pT oT rfl rfl (CellsAt.all (l.b0)) ⟨rfl, rfl⟩
 cases C : (WS f.kind x.op x.arg e.op e.arg)
 have m := C
 refine stx rfl rfl (st (zZ (v := .bool false) rfl rfl (st (aS (.bool false) (zd (zk (zG uR (show _ = (.bool false : Value) from rfl) ?_)))))))
 refine ⟨?_, (l.s3_)⟩
 unfold xn
 first | rfl | simp only [g, m, Bool.false_and, Bool.true_and, Bool.and_false, Bool.and_true, Bool.true_or, Bool.or_true]
 have m := C
 refine sty rfl rfl (cL Tryz.call81 (JR (a := x) (b := e) hdx0 ox hde0 oe l) ?_)
 rintro _ w66 ⟨rfl, U⟩
 refine st (zQ (v := .bool ((Zz x e))) rfl rfl (st (aS (.bool ((Zz x e))) (zd (zk (zG uR (show _ = (.bool ((Zz x e)) : Value) from rfl) ?_))))))
 refine ⟨?_, (U.s3_)⟩
 unfold xn
 first | rfl | simp only [g, m, Bool.false_and, Bool.true_and, Bool.and_false, Bool.and_true, Bool.true_or, Bool.or_true]

theorem WD {G : Nat → Prop} {W w : World} {Rs : List HP} {e : Ev} {de0 : Value} (hde0 : RdS W G de0 e.deps) (oe : e.Ok) (hS0 : Sep G W Rs w) : Ret Tryz.prog 41 [.agg (e.cells de0).toArray] w (fun r w' => ∃ (v : Value), r = (.agg (e.cells v).toArray : Value) ∧ Sep G W ((RowE (α := Int) own 3 v e.deps) :: Rs) w') := by
 have hde0s : _ * 8 ≤ _ := hde0.small
 refine zi (args := [.agg (e.cells de0).toArray]) Tryz.func41 rfl rfl ?_
 refine za (R0 fun _ => st (zH (v := .agg (e.cells de0).toArray) rfl ?_))
 intro w3 b2 n
 refine st (zr Tryz.zeroValue41 ?_)
 intro w7 p o
 have i := (hS0.new n).new o
 refine zd (za (R0 fun _ => st (xc rfl (st (lD de0 sR rfl (zb (i.b1) rfl) (st (cL sY (xI (l := e.deps) (vl := de0) hde0 i) ?_)))))))
 rintro g w10 ⟨_, rfl, a⟩
 have d := a.r0
 have hr12s : _ * 8 ≤ _ := d.2
 refine st (xc rfl (stn (yn (v := g) (c := [Iv (e.origin), Iv (e.seq), Iv (e.lam), de0, Iv (e.typ), Iv (e.agg), Iv (e.field), Iv (e.op), Iv (e.arg), Iv (e.key)]) (c' := [Iv (e.origin), Iv (e.seq), Iv (e.lam), g, Iv (e.typ), Iv (e.agg), Iv (e.field), Iv (e.op), Iv (e.arg), Iv (e.key)]) tY rfl rfl (a.b2) d.1.one rfl rfl ?_)))
 intro w13 j
 have ok15 : Ev.Ok e := ⟨(show InR (e.origin) from oe.origin), (show InR (e.seq) from oe.seq), (show InR (e.lam) from oe.lam), (show InR (e.typ) from oe.typ), (show InR (e.agg) from oe.agg), (show InR (e.field) from oe.field), (show InR (e.op) from oe.op), (show InR (e.arg) from oe.arg), (show InR (e.key) from oe.key)⟩
 have f := a.pt2 j
 refine zd (za (R0 fun _ => st (zf (k := 10) pT oT rfl rfl (CellsAt.all (f.b2)) (stn (zp (v := .agg (e.cells g).toArray) (c' := (e.cells g).toArray) oT rfl rfl (f.b1) (zW ⟨rfl, rfl, rfl, d.1.one, rfl, rfl, rfl, rfl, rfl, rfl, trivial⟩) yqc rfl ?_)))))
 intro w17 m
 have h := f.pt1 m
 refine zd (zk (Qn (b := p) Tryz.results41 pT oT rfl rfl (CellsAt.all (h.b1)) ?_))
 refine ⟨g, rfl, (h.s3_a)⟩

instance : Flat Prj := ⟨fun h => h⟩
theorem el23 : Elem Tryz.prog 23 115 5 40 := ⟨mR, _, _, rfl, rfl, rfl, rfl, rfl⟩
theorem VZ {G : Nat → Prop} {W w : World} {Rs : List HP} {vl : Value} {l : List Prj} (hl : RdS W G vl l) (hS0 : Sep G W Rs w) : Ret Tryz.prog 86 [vl] w (fun r w' => ∃ (v : Value), r = (v : Value) ∧ Sep G W ((RowE (α := Prj) own 115 v l) :: Rs) w') := by
 have hls : _ * 40 ≤ _ := hl.small
 refine zi (args := [vl]) Tryz.func86 rfl rfl ?_
 refine za (R0 fun _ => st (aS (Iz) (zd (za (za (R0 fun _ => st (mV vl (st (xY (v := vl) mR rfl hl.sl (zd ?_))))))))))
 cases i : xP vl
 refine zg rfl (zl (za (R0 fun _ => st (zS (k := 5) (parts' := []) (c := #[]) mR Tryz.sizeOf115 Tryz.zeroValue115 dc rfl kr ?_))))
 intro o p j
 refine st (mV vl ?_)
 have d : Sep G W ((RowE (α := Prj) own 115 (Iy p 0 0) ([] : List Prj)) :: Rs) o := Sep.blkRow (src := own) (l := ([] : List Prj)) (css := []) (hS0.new j) rfl trivial yqa
 have e := d.r0
 have hr10s : _ * 40 ≤ _ := e.2
 refine st (xJ (src := own) (bytes := 40) d el23 rfl rfl hl yqb rfl (hq' := fun _ _ h _ _ => Xv h) ?_)
 intro b q a
 have a : Sep G W ((RowE (α := Prj) own 115 b l) :: Rs) q := a
 have f := a.r0
 have hr11s : _ * 40 ≤ _ := f.2
 refine st (aS b (zd (zk (zG uY (show _ = (b : Value) from rfl) ?_))))
 refine ⟨b, rfl, a⟩
 have m := Ym hl.sl i
 refine zh rfl (za (R0 fun _ => st (aS (Iz) (zd (zk (zG uY (show _ = ((Iz) : Value) from rfl) ?_))))))
 have g : Sep G W ((RowE (α := Prj) own 115 (Iz) ([] : List Prj)) :: Rs) w := hS0.rowNil own 115
 have n : l = [] := List.length_eq_zero_iff.1 m
 subst n
 refine ⟨(Iz), rfl, g⟩

theorem el51 : Elem Tryz.prog 51 110 4 48 := ⟨rT, _, _, rfl, rfl, rfl, rfl, rfl⟩
theorem VT {G : Nat → Prop} {W w : World} {Rs : List HP} {vl : Value} {l : List Fld} (hl : RdS W G vl l) (hS0 : Sep G W Rs w) : Ret Tryz.prog 87 [vl] w (fun r w' => ∃ (v : Value), r = (v : Value) ∧ Sep G W ((RowE (α := Fld) (shr G W) 110 v l) :: Rs) w') := by
 have hls : _ * 48 ≤ _ := hl.small
 refine zi (args := [vl]) Tryz.func87 rfl rfl ?_
 refine za (R0 fun _ => st (aS (Iz) (zd (za (za (R0 fun _ => st (mV vl (st (xY (v := vl) rT rfl hl.sl (zd ?_))))))))))
 cases i : xP vl
 refine zg rfl (zl (za (R0 fun _ => st (zS (k := 4) (parts' := []) (c := #[]) rT pR Tryz.zeroValue110 dc rfl kr ?_))))
 intro o p j
 refine st (mV vl ?_)
 have d : Sep G W ((RowE (α := Fld) (shr G W) 110 (Iy p 0 0) ([] : List Fld)) :: Rs) o := Sep.blkRow (src := (shr G W)) (l := ([] : List Fld)) (css := []) (hS0.new j) rfl trivial yqa
 have e := d.r0
 have hr10s : _ * 48 ≤ _ := e.2
 refine st (xJ (src := (shr G W)) (bytes := 48) d el51 rfl rfl hl yqb rfl (hq' := fun _ _ h _ _ => h) ?_)
 intro b q a
 have a : Sep G W ((RowE (α := Fld) (shr G W) 110 b l) :: Rs) q := a
 have f := a.r0
 have hr11s : _ * 48 ≤ _ := f.2
 refine st (aS b (zd (zk (zG vY (show _ = (b : Value) from rfl) ?_))))
 refine ⟨b, rfl, a⟩
 have m := Ym hl.sl i
 refine zh rfl (za (R0 fun _ => st (aS (Iz) (zd (zk (zG vY (show _ = ((Iz) : Value) from rfl) ?_))))))
 have g : Sep G W ((RowE (α := Fld) (shr G W) 110 (Iz) ([] : List Fld)) :: Rs) w := hS0.rowNil (shr G W) 110
 have n : l = [] := List.length_eq_zero_iff.1 m
 subst n
 refine ⟨(Iz), rfl, g⟩

theorem Jg {G : Nat → Prop} {W w : World} {Rs : List HP} {x : Sta} {dx0 : Value} (hdx0 : RdS W G dx0 x.cls) (ox : x.Ok) (hS0 : Sep G W Rs w) : Ret Tryz.prog 34 [.agg (x.cells dx0).toArray] w (fun r w' => ∃ (v : Value), r = (.agg (x.cells v).toArray : Value) ∧ Sep G W ((RowE (α := Cel) own 99 v x.cls) :: Rs) w') := by
 have hdx0s : _ * 32 ≤ _ := hdx0.small
 refine zi (args := [.agg (x.cells dx0).toArray]) Tryz.func34 rfl rfl ?_
 refine za (R0 fun _ => st (zH (v := .agg (x.cells dx0).toArray) rfl ?_))
 intro w3 b2 aD
 refine st (zr Tryz.zeroValue47 ?_)
 intro w7 R aE
 have aw := (hS0.new aD).new aE
 refine zd (za (R0 fun _ => st (xV rfl (st (lD dx0 tT rfl (zb (aw.b1) rfl) (st (cL Tryz.call43 (YY (l := x.cls) (vl := dx0) hdx0 aw) ?_)))))))
 rintro m w10 ⟨_, rfl, F⟩
 have H := F.r0
 have hr12s : _ * 32 ≤ _ := H.2
 refine st (xV rfl (stn (yn (v := m) (c := [Iv (x.ver), dx0]) (c' := [Iv (x.ver), m]) Tryz.sizeOf45 rfl rfl (F.b2) H.1.one rfl rfl ?_)))
 intro w13 ax
 have ok15 : Sta.Ok x := ⟨(show InR (x.ver) from ox.ver)⟩
 have S := F.pt2 ax
 refine zd (za (za (R0 fun _ => st (xV rfl (st (lD m tT rfl (zb (S.b2) rfl) (st (zL (n := x.cls.length) vR rfl H.1 (st (mV (Iv 0) (zd (zw ?_))))))))))))
 have ay := S.toMix
 refine yh (fun mq σ y => ∃ (k : Nat) (ρ : Env), mq = x.cls.length - k ∧ σ = ye ρ [(1, Ix b2 0), (2, Ix R 0), (10, Iw x.cls.length), (11, Iw k)] ∧ (k ≤ x.cls.length) ∧ Sep G W ((RowE (α := Bool × Cel) (mix (α := Cel) G W) 99 m (xL k x.cls)) :: (Blk R #[Iv 0, (Iz)] 47) :: (Blk b2 (x.cells m).toArray 47) :: Rs) y) ⟨0, _, rfl, sSf, Nat.zero_le _, ay⟩ ?_
 rintro m19 σ20 aF ⟨k, ρl1, rfl, rfl, hkk, I⟩
 have J := I.r0
 rw [xv] at J
 refine za (R0 fun _ => st (zF (k := .i64) (a := ((k : Nat) : Int)) (b := ((x.cls.length : Nat) : Int)) rfl rfl (zd (za ?_))))
 cases z : decide (((k : Nat) : Int) < ((x.cls.length : Nat) : Int))
 have z := fD z
 have A : Sep G W ((RowE (α := Cel) own 99 m x.cls) :: (Blk R #[Iv 0, (Iz)] 47) :: (Blk b2 (x.cells m).toArray 47) :: Rs) aF := I.ofMix om
 have T := A.r0
 have hr25s : _ * 32 ≤ _ := T.2
 refine zg rfl (yi (yb (za (R0 fun _ => st (zf (k := 2) wY wR rfl rfl (CellsAt.all (A.b2)) (stn (zp (v := .agg (x.cells m).toArray) (c' := (x.cells m).toArray) wR rfl rfl (A.b1) (zW ⟨rfl, T.1.one, trivial⟩) yqc rfl ?_)))))))
 intro w26 az
 have U := A.pt1 az
 refine zd (zk (Qn (b := R) Tryz.results34 wY wR rfl rfl (CellsAt.all (U.b1)) ?_))
 refine ⟨m, rfl, (U.s3_a)⟩
 have z := tD z
 refine zh rfl (zl (za (zw (za (R0 fun _ => st (mV (Iw k) (st (aS (Iw k) (zd ?_)))))))))
 refine WD4 ((fun TT V => WF [fun vals y => Sep G W (V :: TT) y, fun vals y => ∃ (e : Value), (vals 8 = (e : Value)) ∧ (RdS W G e (x.cls.getD k default).set) ∧ (Cel.Ok (x.cls.getD k default)) ∧ Sep G W (V :: TT) y, fun vals y => ∃ (e : Value) (p : Value), (vals 8 = (e : Value)) ∧ (vals 9 = (p : Value)) ∧ (RdS W G e (x.cls.getD k default).set) ∧ (Cel.Ok (x.cls.getD k default)) ∧ Sep G W ((RowE (α := Int) own 3 p ((x.cls.getD k default).set)) :: V :: TT) y, fun vals y => ∃ (e : Value) (p : Value), (vals 8 = (e : Value)) ∧ (vals 9 = (p : Value)) ∧ (RdS W G e (x.cls.getD k default).set) ∧ (Cel.Ok (x.cls.getD k default)) ∧ Sep G W ((RowE (α := Bool × Cel) (mix (α := Cel) G W) 99 m (xL (k + 1) x.cls)) :: TT) y]) ((Blk R #[Iv 0, (Iz)] 47) :: (Blk b2 (x.cells m).toArray 47) :: Rs) (RowE (α := Bool × Cel) (mix (α := Cel) G W) 99 m (xL k x.cls))) (AF [Vl 0 (Ix b2 1), Vl 1 (m), Vl 2 (Iw k), Vl 3 (Ix b2 1), Vl 4 (m), Vl 5 (Iw k), Vl 6 (Ix (sb m) (so m + k * 2)), Vl 7 (Ix (sb m) (so m + k * 2 + 1)), fun _ => True, fun _ => True, Vl 10 (Ix (sb m) (so m + k * 2)), Vl 11 (Ix (sb m) (so m + k * 2 + 1)), fun _ => True]) [[], [0], [], [], [3], [], [3, 4, 5], [3, 4, 5, 6], [3, 4, 5, 6, 7], [3, 4, 5, 6, 7, 8], (rg 10), (rg 11), (rg 12)] [8, 9, 12] [(0, 2), (0, 2), (0, 2), (0, 0), (0, 0), (0, 0), (0, 0), (0, 0), (0, 0), (1, 1), (2, 2), (2, 2), (2, 2)] I ⟨fun _ _ _ _ _ _ _ => obl rfl (xV rfl dR), ?_, fun _ _ _ _ _ _ _ => obl rfl (mV (Iw k) dR), fun _ _ _ _ _ _ _ => obl rfl (xV rfl dR), ob1 0 fun _ _ (Z : Sep _ _ _ _) aa => obl rfl (lD m tT (aa 3 dc) (zb (Z.b2) rfl) dR), fun _ _ _ _ _ _ _ => obl rfl (mV (Iw k) dR), ?_, fun _ _ _ _ _ _ ab => obl rfl (xy (ab 6 dc) dR), ?_, ?_, ?_, fun _ _ _ _ _ _ ac => obl rfl (xy (ac 10 dc) dR), ?_, trivial⟩ ?_
 refine fun t _ _ aA aB B C => ?_
 have hkk : t = 0 ∨ t = 1 ∨ t = 2 := by have h1 : 0 ≤ t := aA; have h2 : t ≤ 2 := aB; omega
 rcases hkk with rfl | rfl | rfl
 have ad : Sep _ _ _ _ := B
 exact obl rfl (lD m tT (C 0 dc) (zb (ad.b2) rfl) dR)
 obtain ⟨e, q, g, h, ae⟩ := B
 exact obl rfl (lD m tT (C 0 dc) (zb (ae.b2) rfl) dR)
 obtain ⟨e, p, q, s, g, h, af⟩ := B
 exact obl rfl (lD m tT (C 0 dc) (zb (af.b3) rfl) dR)
 refine ob1 0 fun _ _ _ K => (obl rfl ?_)
 have ag : k < x.cls.length := bo
 exact zn (k := 2) (i := k) vR kA (K 4 dc) J.1 (K 5 dc) ag dR
 refine ob1 0 fun _ _ (X : Sep _ _ _ _) aC => (obl rfl ?_)
 have Y : k < x.cls.length := bo
 obtain ⟨_, L, e, rfl, g, h⟩ := X.mixAt (i := 0) (j := k) rfl (Nat.le_refl _) Y
 rw [← zA default Y] at L g h
 exact (lD e sR (aC 7 dc) (L.get (j := 1) rfl) (fun M hv E => ⟨(Exists.intro e (And.intro hv (And.intro g (And.intro h X)))), trivial⟩))
 refine ob1 1 fun vals _ ai _ => ?_
 obtain ⟨e, q, g, h, aj⟩ := ai
 refine obl rfl ((zB (f := 44) (vals := [e]) (cap := []) rfl (yE ⟨q, trivial⟩) sY (xI (l := (x.cls.getD k default).set) (vl := e) g aj) ?_))
 rintro p w106 ⟨_, rfl, N⟩
 have ak := N.r0
 have hr108s : _ * 8 ≤ _ := ak.2
 exact fun M hv E => ⟨(Exists.intro e (Exists.intro p (And.intro ((E 8 dc).trans q) (And.intro hv (And.intro g (And.intro h N)))))), trivial⟩
 refine ob1 2 fun _ _ al O => ?_
 obtain ⟨e, p, q, s, g, h, hS208⟩ := al
 refine obl rfl ?_
 have am : k < x.cls.length := bo
 exact zn (k := 2) (i := k) vR kA (O 1 dc) J.1 (O 2 dc) am dR
 refine ob1 2 fun _ _ an ao => ?_
 obtain ⟨e, p, q, s, g, h, ap⟩ := an
 refine obl rfl ?_
 have P := ap.mv1
 have Q : k < x.cls.length := bo
 have D := P.r1
 have hr139s : _ * 8 ≤ _ := D.2
 refine (Wl (α := Cel) (j := k) (o := 1) (u := p) (us := [p]) P tY Q (ao 11 (by decide)) s (congrArg Array.toList (yV D.1.one)) (Nat.le_of_ble_eq_true rfl) (zW ⟨D.1.one, trivial⟩) (fun w f cs0 hr hN => (by obtain ⟨d, rfl, hd, hok⟩ := hr; exact ⟨_, rfl, (by rw [← zA default Q]; exact RowE.soft hN), hok⟩)) ?_)
 intro w135 aq
 exact fun M hv E => ⟨(Exists.intro e (Exists.intro p (And.intro ((E 8 dc).trans q) (And.intro ((E 9 dc).trans s) (And.intro g (And.intro h aq)))))), trivial⟩
 intro vals w219 ar hA221
 obtain ⟨e, p, q, s, g, h, au⟩ := ar
 refine zT (kv := [(1, Ix b2 0), (2, Ix R 0), (10, Iw x.cls.length), (11, Iw k), (12, .bool true), (13, Iw k), (3, Iw k)]) sEv (fun ρw219 => (zd (R0 fun _ => ?_)))
 have av : InR ((k + 1 : Nat) : Int) := bo
 refine st (zV (r := ((k + 1 : Nat) : Int)) (k := .i64) (a := ((k : Nat) : Int)) (b := 1) rfl rfl (by rw [show (((k : Nat) : Int) + 1 : Int) = ((k + 1 : Nat) : Int) from bo]; exact zJ av) (st (mV (Iw (k + 1)) (zd ?_))))
 exact ⟨_, by omega, k + 1, _, rfl, sSf, by omega, au⟩

theorem el22 : Elem Tryz.prog 22 53 1 24 := ⟨wT, _, _, rfl, rfl, rfl, rfl, rfl⟩
theorem Uw {G : Nat → Prop} {W w : World} {Rs : List HP} {d : Dcl} {dd0 : Value} (hdd0 : RdS W G dd0 d.types) {dd1 : Value} (hdd1 : RdS W G dd1 d.projs) (od : d.Ok) (hS0 : Sep G W Rs w) : Ret Tryz.prog 71 [.agg (d.cells dd0 dd1).toArray] w (fun r w' => ∃ (v1 : Value) (v2 : Value), r = (.agg (d.cells v1 v2).toArray : Value) ∧ Sep G W ((RowE (α := Typ) own 53 v1 d.types) :: (RowE (α := Prj) own 115 v2 d.projs) :: Rs) w') := by
 have hdd0s : _ * 24 ≤ _ := hdd0.small
 have hdd1s : _ * 40 ≤ _ := hdd1.small
 refine zi (args := [.agg (d.cells dd0 dd1).toArray]) Tryz.func71 rfl rfl ?_
 refine za (R0 fun _ => st (zH (v := .agg (d.cells dd0 dd1).toArray) rfl ?_))
 intro w3 b2 aH
 refine st (zr lA ?_)
 intro w7 H aI
 have ag := (hS0.new aH).new aI
 refine zd (za (R0 fun _ => st (Xs rfl (st (lD dd1 Tryz.isAgg23 rfl (zb (ag.b1) rfl) (st (cL Tryz.call86 (VZ (l := d.projs) (vl := dd1) hdd1 ag) ?_)))))))
 rintro g w10 ⟨_, rfl, I⟩
 have s := I.r0
 have hr12s : _ * 40 ≤ _ := s.2
 have ok13 : Dcl.Ok (⟨[], d.projs⟩ : Dcl) := ⟨⟩
 refine st (zI (parts' := [(1, g)]) (v := .agg ((⟨[], d.projs⟩ : Dcl).cells (Iz) g).toArray) rfl (by obtain ⟨_, _, ai, _⟩ := s.1; rw [show g = Value.slice _ _ _ from ai]; simp [Instr.build, Instr.fill, Ev.cells, go_sem, Mv.cells, Fld.cells, Typ.cells, Prj.cells, Dcl.cells, Cel.cells, AskR.cells, CelS.cells, Ev.cells, Ent.cells, Sta.cells]) (st (zr lA ?_)))
 intro w17 z aj
 have J := I.new aj
 refine stn (zp (v := .agg ((⟨[], d.projs⟩ : Dcl).cells (Iz) g).toArray) (c' := ((⟨[], d.projs⟩ : Dcl).cells (Iz) g).toArray) kR rfl rfl (J.b0) (zW ⟨rfl, s.1.one, trivial⟩) yqc rfl ?_)
 intro w19 ak
 have K := J.pt0 ak
 refine zd (za (za (R0 fun _ => st (yC rfl (st (lD dd0 mA rfl (zb (K.b3) rfl) (st (zL (n := d.types.length) wT rfl hdd0.sl (st (mV (Iv 0) (zd (zw ?_))))))))))))
 have al : Sep _ _ ((RowE (α := Typ) own 53 (Iz) ([] : List Typ)) :: _) _ := K.rowNil own 53
 refine yh (fun mq σ wq => ∃ (k : Nat) (vo : Value) (ρ : Env), mq = d.types.length - k ∧ σ = ye ρ [(1, Ix b2 0), (2, Ix H 0), (3, Ix z 0), (13, dd0), (14, Iw d.types.length), (15, Iw k)] ∧ (k ≤ d.types.length) ∧ Sep G W ((RowE (α := Typ) own 53 vo (d.types.take k)) :: (Blk z #[vo, g] 25) :: (RowE (α := Prj) own 115 g d.projs) :: (Blk H #[(Iz), (Iz)] 25) :: (Blk b2 (d.cells dd0 dd1).toArray 25) :: Rs) wq) ⟨0, (Iz), _, rfl, sSf, Nat.zero_le _, al⟩ ?_
 rintro m24 σ25 w23 ⟨k, vo, ρl1, rfl, rfl, hkk, h⟩
 have an := h.r0
 have hr27s : _ * 24 ≤ _ := an.2
 refine za (R0 fun _ => st (zF (k := .i64) (a := ((k : Nat) : Int)) (b := ((d.types.length : Nat) : Int)) rfl rfl (zd (za ?_))))
 cases t : decide (((k : Nat) : Int) < ((d.types.length : Nat) : Int))
 have t := fD t
 have hkn : k = d.types.length := by omega
 rw [hkn, List.take_of_length_le (Nat.le_refl d.types.length)] at h
 have L := h.r0
 have hr29s : _ * 24 ≤ _ := L.2
 refine zg rfl (yi (yb (za (R0 fun _ => ?_))))
 have ok30 : Dcl.Ok d := ⟨⟩
 refine st (zf (k := 2) kY kR rfl rfl (CellsAt.all (h.b1)) (stn (zp (v := .agg (d.cells vo g).toArray) (c' := (d.cells vo g).toArray) kR rfl rfl (h.b3) (zW ⟨L.1.one, s.1.one, trivial⟩) yqc rfl ?_)))
 intro aJ ao
 have M := h.pt3 ao
 refine zd (zk (Qn (b := H) Tryz.results71 kY kR rfl rfl (CellsAt.all (M.b3)) ?_))
 have ap : Sep G W ((RowE (α := Typ) own 53 vo d.types) :: (RowE (α := Prj) own 115 g d.projs) :: Rs) aJ := M.sel 5 [0, 2] (Nat.le_add_left _ _) rfl rfl
 refine ⟨vo, g, rfl, ap⟩
 have t := tD t
 refine zh rfl (zl (za (zw (za (R0 fun _ => ?_)))))
 have aq : k < d.types.length := bo
 refine st (zn (k := 1) (i := k) wT qR rfl hdd0.sl rfl aq ?_)
 have N : k < d.types.length := bo
 obtain ⟨ad, m, hoke36⟩ := hdd0.typD N
 have hsm38 : ((d.types.getD k default).fields).length * 48 ≤ 140737488355328 := m.small
 have ae := h.cells ad (hdd0.foot (ne_of_lt N))
 refine st (zf (k := 1) Tryz.isAgg53 qR rfl rfl ae (st (zr nA ?_)))
 intro w42 O ar
 have P := h.new ar
 refine stn (zp (v := .agg ((d.types.getD k default).cells (zP W (sb dd0) (so dd0 + k * 1 + 0))).toArray) (c' := ((d.types.getD k default).cells (zP W (sb dd0) (so dd0 + k * 1 + 0))).toArray) qR rfl rfl (P.b0) (zW ⟨m.sl.one, trivial⟩) yqc rfl ?_)
 intro w44 au
 have Q := P.pt0 au
 refine zd (za (R0 fun _ => st (yZ rfl (st (lD (zP W (sb dd0) (so dd0 + k * 1 + 0)) Tryz.isAgg51 rfl (zb (Q.b0) rfl) (st (cL Tryz.call87 (VT (l := (d.types.getD k default).fields) (vl := (zP W (sb dd0) (so dd0 + k * 1 + 0))) m Q) ?_)))))))
 rintro e w48 ⟨_, rfl, R⟩
 have S := R.r0
 have hr50s : _ * 48 ≤ _ := S.2
 refine st (aS e (zd (za (za (R0 fun _ => st (mV e (st (zL (n := ((d.types.getD k default).fields).length) rT rfl S.1 (st (mV (Iv 0) (zd (zw ?_))))))))))))
 have av := R.toMix
 refine yh (fun mq σ wq => ∃ (q : Nat) (ρ : Env), mq = ((d.types.getD k default).fields).length - q ∧ σ = ye ρ [(1, Ix b2 0), (2, Ix H 0), (3, Ix z 0), (5, Ix O 0), (6, e), (13, dd0), (14, Iw d.types.length), (15, Iw k), (23, Iw (((d.types.getD k default).fields).length)), (24, Iw q)] ∧ (q ≤ ((d.types.getD k default).fields).length) ∧ Sep G W ((RowE (α := Bool × Fld) (mix (α := Fld) G W) 110 e (xL q ((d.types.getD k default).fields))) :: (Blk O ((d.types.getD k default).cells (zP W (sb dd0) (so dd0 + k * 1 + 0))).toArray 53) :: (RowE (α := Typ) own 53 vo (d.types.take k)) :: (Blk z #[vo, g] 25) :: (RowE (α := Prj) own 115 g d.projs) :: (Blk H #[(Iz), (Iz)] 25) :: (Blk b2 (d.cells dd0 dd1).toArray 25) :: Rs) wq) ⟨0, _, rfl, sSf, Nat.zero_le _, av⟩ ?_
 rintro m53 σ54 aK ⟨q, ρl2, rfl, rfl, hkq, x⟩
 have B := x.r0
 rw [xv] at B
 refine za (R0 fun _ => st (zF (k := .i64) (a := ((q : Nat) : Int)) (b := ((((d.types.getD k default).fields).length : Nat) : Int)) rfl rfl (zd (za ?_))))
 cases y : decide (((q : Nat) : Int) < ((((d.types.getD k default).fields).length : Nat) : Int))
 have y := fD y
 have C : Sep G W ((RowE (α := Fld) own 110 e ((d.types.getD k default).fields)) :: (Blk O ((d.types.getD k default).cells (zP W (sb dd0) (so dd0 + k * 1 + 0))).toArray 53) :: (RowE (α := Typ) own 53 vo (d.types.take k)) :: (Blk z #[vo, g] 25) :: (RowE (α := Prj) own 115 g d.projs) :: (Blk H #[(Iz), (Iz)] 25) :: (Blk b2 (d.cells dd0 dd1).toArray 25) :: Rs) aK := x.ofMix om
 have T := C.r0
 have hr59s : _ * 48 ≤ _ := T.2
 refine zg rfl (yi (yb (R0 fun _ => st (yC rfl (st (lD vo mA rfl (zb (C.b3) rfl) (st (mV e ?_))))))))
 have aw : Typ.Ok (d.types.getD k default) := ⟨⟩
 refine st (zI (parts' := [(0, e)]) (v := .agg ((d.types.getD k default).cells e).toArray) rfl (by obtain ⟨_, _, ax, _⟩ := T.1; rw [show e = Value.slice _ _ _ from ax]; simp [Instr.build, Instr.fill, Ev.cells, go_sem, Mv.cells, Fld.cells, Typ.cells, Prj.cells, Dcl.cells, Cel.cells, AskR.cells, CelS.cells, Ev.cells, Ent.cells, Sta.cells]) (st (zS (k := 1) (parts' := [(0, .agg ((d.types.getD k default).cells e).toArray)]) (c := ((d.types.getD k default).cells e).toArray) wT qR nA (by decide) rfl (by kernel_rfl) ?_)))
 intro w64 b63 ay
 have U := C.new ay
 have af := U.b0
 refine st (xb (src := own) (bytes := 24) (x1 := (d.types.getD k default)) (U.s8_dbcefgh) el22 rfl rfl af (fun _ _ hN => ⟨_, rfl, RowE.soft hN, aw⟩) yqb rfl ?_)
 intro V w66 D
 have X := D.r0
 have hr71s : _ * 24 ≤ _ := X.2
 refine st (yC rfl (stn (yn (v := V) (c := [vo, g]) (c' := [V, g]) Tryz.sizeOf22 rfl rfl (D.b2) X.1.one rfl rfl ?_)))
 intro w72 aA
 have ok74 : Dcl.Ok (⟨(d.types.take k) ++ [(d.types.getD k default)], d.projs⟩ : Dcl) := ⟨⟩
 refine zd (R0 fun _ => ?_)
 have aB : InR ((k + 1 : Nat) : Int) := bo
 refine st (zV (r := ((k + 1 : Nat) : Int)) (k := .i64) (a := ((k : Nat) : Int)) (b := 1) rfl rfl (by rw [show (((k : Nat) : Int) + 1 : Int) = ((k + 1 : Nat) : Int) from bo]; exact zJ aB) (st (mV (Iw (k + 1)) (zd ?_))))
 have Y := (D.pt2 aA).s6_acdef
 have aC : (d.types.take (k + 1)) = (d.types.take k) ++ [(d.types.getD k default)] := (List.take_getD om)
 rw [← aC] at Y
 exact ⟨_, by omega, k + 1, V, _, rfl, sSf, by omega, Y⟩
 have y := tD y
 refine zh rfl (zl (za (zw (za (R0 fun _ => st (mV (Iw q) (st (aS (Iw q) (zd (R0 fun _ => st (mV e (st (mV (Iw q) (st (mV e (st (mV (Iw q) ?_)))))))))))))))))
 have aD : q < ((d.types.getD k default).fields).length := bo
 refine st (zn (k := 4) (i := q) rT pR rfl B.1 rfl aD (st (yF rfl ?_)))
 have Z : q < ((d.types.getD k default).fields).length := bo
 obtain ⟨_, F, A, rfl, p, aa⟩ := x.mixAt (i := 0) (j := q) rfl (Nat.le_refl _) Z
 rw [← zA default Z] at F p aa
 refine st (lD A Tryz.isAgg108 rfl (F.get (j := 3) rfl) (st (cL Tryz.call88 (XW (l := (((d.types.getD k default).fields).getD q default).moves) (vl := A) p x) ?_)))
 rintro ah w83 ⟨_, rfl, ab⟩
 have E := ab.r0
 have hr85s : _ * 32 ≤ _ := E.2
 have aE : q < ((d.types.getD k default).fields).length := bo
 refine st (zn (k := 4) (i := q) rT pR rfl B.1 rfl aE (st (yF rfl ?_)))
 have ac : q < ((d.types.getD k default).fields).length := bo
 refine stn (Wl (α := Fld) (j := q) (o := 3) (u := ah) (us := [ah]) (ab.mv1) Tryz.sizeOf108 ac rfl rfl (congrArg Array.toList (yV E.1.one)) (Nat.le_of_ble_eq_true rfl) (zW ⟨E.1.one, trivial⟩) (fun w f cs0 hr hN => (by obtain ⟨d, rfl, hd, hok⟩ := hr; exact ⟨_, rfl, (by rw [← zA default ac]; exact RowE.soft hN), hok⟩)) ?_)
 intro w87 aF
 refine zd (R0 fun _ => ?_)
 have aG : InR ((q + 1 : Nat) : Int) := bo
 refine st (zV (r := ((q + 1 : Nat) : Int)) (k := .i64) (a := ((q : Nat) : Int)) (b := 1) rfl rfl (by rw [show (((q : Nat) : Int) + 1 : Int) = ((q + 1 : Nat) : Int) from bo]; exact zJ aG) (st (mV (Iw (q + 1)) (zd ?_))))
 exact ⟨_, by omega, q + 1, _, rfl, sSf, by omega, aF⟩

theorem zbi {G : Nat → Prop} {W w : World} {Rs : List HP} {d : Dcl} {dd0 : Value} (hdd0 : RdS W G dd0 d.types) {dd1 : Value} (hdd1 : RdS W G dd1 d.projs) (od : d.Ok) (hS0 : Sep G W Rs w) : Ret Tryz.prog 50 [.agg (d.cells dd0 dd1).toArray] w (fun r w' => ∃ (b : Nat), r = (.pointer (some ⟨b, 0, none⟩) : Value) ∧ Sep G W ((ViewO b d [] []) :: Rs) w') := by
 have hdd0s : _ * 24 ≤ _ := hdd0.small
 have hdd1s : _ * 40 ≤ _ := hdd1.small
 refine zi (args := [.agg (d.cells dd0 dd1).toArray]) Tryz.func50 rfl rfl ?_
 refine za (R0 fun _ => st (zH (v := .agg (d.cells dd0 dd1).toArray) rfl ?_))
 intro w3 b2 y
 have l := hS0.new y
 refine st (aS (.pointer none) (zd (za (R0 fun _ => st (zf (k := 2) kY kR rfl rfl (CellsAt.all (l.b0)) (st (cL Tryz.call71 (Uw (d := d) hdd0 hdd1 od l) ?_)))))))
 rintro _ C ⟨a, c, rfl, h⟩
 have A := h.r0
 have hr9s : _ * 24 ≤ _ := A.2
 have n := h.r1
 have hr10s : _ * 40 ≤ _ := n.2
 refine st (Zf ?_)
 intro m o
 obtain ⟨e, i⟩ : ∃ z, z = C.heap.size := ⟨_, rfl⟩; rw [← i]
 have p : Sep G W ((MapO yI E1 e (fun _ => none)) :: (RowE (α := Typ) own 53 a d.types) :: (RowE (α := Prj) own 115 c d.projs) :: (Blk b2 (d.cells dd0 dd1).toArray 25) :: Rs) m := (by rw [i]; exact h.mapoNew o)
 refine st (Zf ?_)
 intro B q
 obtain ⟨f, j⟩ : ∃ z, z = m.heap.size := ⟨_, rfl⟩; rw [← j]
 have s : Sep G W ((MapO xA E2 f (fun _ => none)) :: (MapO yI E1 e (fun _ => none)) :: (RowE (α := Typ) own 53 a d.types) :: (RowE (α := Prj) own 115 c d.projs) :: (Blk b2 (d.cells dd0 dd1).toArray 25) :: Rs) B := (by rw [j]; exact p.mapoNew q)
 refine st (zI (parts' := [(0, .agg (d.cells a c).toArray), (2, .map (some e)), (3, .map (some f))]) (v := .agg #[a, c, (Iz), .map (some e), .map (some f)]) rfl (by simp [Instr.build, Instr.fill, go_sem, Dcl.cells]) (st (zH (v := .agg #[a, c, (Iz), .map (some e), .map (some f)]) rfl ?_)))
 intro w21 g t
 refine st (aS (Ix g 0) (zd (zk (zG Tryz.results50 (show _ = (Ix g 0 : Value) from rfl) ?_))))
 have u : Sep _ _ ((RowE (α := Ent) own 57 (Iz) ([] : List Ent)) :: _) _ := (s.new t).rowNil own 57
 have x : Sep _ _ ((ViewO g d [] []) :: _) _ := ViewO.close (d := d) (L := []) (M := []) (u.s7_befadcg)
 refine ⟨g, rfl, (x.s2_a)⟩

end Go.Proofs.YtbbabhaalmkbkaaGreatDoor
