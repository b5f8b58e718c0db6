/- The arguments opened. -/
import Derived.Test.YtbbpmhfcgoljdaaOpens
import Derived.Test.YtbbpmhfcgoljdaaRows
import Derived.Test.YtbbpmhfcgoljdaaRecs
namespace Go.Proofs.Ytbbpmhfcgoljdaa
open Go.ChangeShapes Go.WideShapes Go.ChangeAt Go.RowKit

theorem opI : Opens Try.prog 3 Int := opens_int Try.underlying3
theorem opB : Opens Try.prog 4 Bool := opens_bool Try.underlying4
theorem opId : Opens Try.prog 34 (Int × Int) := opens_pair Try.underlying34 (by kernel_rfl) rfl rfl rfl rfl (by kernel_rfl) (by kernel_rfl) opI opI
theorem opIs : Opens Try.prog 25 (List Int) := opens_list Try.underlying25 opI (by kernel_rfl) (by kernel_rfl)
theorem opEv : Opens Try.prog 36 Ev := by
  intro H enc w fuel cs x h hx
  obtain ⟨_, _, _, _, hl, _⟩ := DataW.trod_struct Try.underlying36 h
  obtain ⟨c0, c1, c2, c3, c4, c5, c6, c7, c8, c9, rfl⟩ := list_ten (hl.trans (by kernel_rfl))
  obtain ⟨⟨m0, m1⟩, e0, r0, r1⟩ := open_field (α := Int × Int) (i := 0) Try.underlying36 h hx rfl (by kernel_rfl) opId
  obtain ⟨m2, e2, r2⟩ := open_field (α := Int) (i := 1) Try.underlying36 h hx rfl (by kernel_rfl) opI
  obtain ⟨m3, v3, e3, r3⟩ := open_field (α := List Int) (i := 2) Try.underlying36 h hx rfl (by kernel_rfl) opIs
  obtain ⟨m4, e4, r4⟩ := open_field (α := Int) (i := 3) Try.underlying36 h hx rfl (by kernel_rfl) opI
  obtain ⟨m5, e5, r5⟩ := open_field (α := Int) (i := 4) Try.underlying36 h hx rfl (by kernel_rfl) opI
  obtain ⟨m6, e6, r6⟩ := open_field (α := Int) (i := 5) Try.underlying36 h hx rfl (by kernel_rfl) opI
  obtain ⟨m7, e7, r7⟩ := open_field (α := Int) (i := 6) Try.underlying36 h hx rfl (by kernel_rfl) opI
  obtain ⟨m8, e8, r8⟩ := open_field (α := Int) (i := 7) Try.underlying36 h hx rfl (by kernel_rfl) opI
  obtain ⟨m9, e9, r9⟩ := open_field (α := Int) (i := 8) Try.underlying36 h hx rfl (by kernel_rfl) opI
  obtain rfl : c0 = .int .i64 m0 := List.cons.inj e0 |>.1
  obtain rfl : c1 = .int .i64 m1 := List.cons.inj (List.cons.inj e0 |>.2) |>.1
  obtain rfl : c2 = .int .i64 m2 := List.cons.inj e2 |>.1
  obtain rfl : c3 = v3 := List.cons.inj e3 |>.1
  obtain rfl : c4 = .int .i64 m4 := List.cons.inj e4 |>.1
  obtain rfl : c5 = .int .i64 m5 := List.cons.inj e5 |>.1
  obtain rfl : c6 = .int .i64 m6 := List.cons.inj e6 |>.1
  obtain rfl : c7 = .int .i64 m7 := List.cons.inj e7 |>.1
  obtain rfl : c8 = .int .i64 m8 := List.cons.inj e8 |>.1
  obtain rfl : c9 = .int .i64 m9 := List.cons.inj e9 |>.1
  exact ⟨⟨m0, m1, m2, m3, m4, m5, m6, m7, m8, m9⟩, c3, rfl, r3, ⟨r0, r1, r2, r4, r5, r6, r7, r8, r9⟩⟩
theorem lst_13 {α : Type} {l : List α} (h : l.length = 13) : ∃ a0 a1 a2 a3 a4 a5 a6 a7 a8 a9 a10 a11 a12, l = [a0, a1, a2, a3, a4, a5, a6, a7, a8, a9, a10, a11, a12] := by
  match l, h with
  | [a0, a1, a2, a3, a4, a5, a6, a7, a8, a9, a10, a11, a12], _ => exact ⟨a0, a1, a2, a3, a4, a5, a6, a7, a8, a9, a10, a11, a12, rfl⟩
theorem opEnt : Opens Try.prog 38 Ent := by
  intro H enc w fuel cs x h hx
  obtain ⟨_, _, _, _, hl, _⟩ := DataW.trod_struct Try.underlying38 h
  obtain ⟨c0, c1, c2, c3, c4, c5, c6, c7, c8, c9, c10, c11, c12, rfl⟩ := lst_13 (hl.trans (by kernel_rfl))
  obtain ⟨ev, d, e0, hd, ok⟩ := open_field (α := Ev) (i := 0) Try.underlying38 h hx rfl (by kernel_rfl) opEv
  obtain ⟨m1, e1⟩ := open_field (α := Bool) (i := 1) Try.underlying38 h hx rfl (by kernel_rfl) opB
  obtain ⟨⟨m2, m3⟩, e2, r2, r3⟩ := open_field (α := Int × Int) (i := 2) Try.underlying38 h hx rfl (by kernel_rfl) opId
  have e0 : [c0, c1, c2, c3, c4, c5, c6, c7, c8, c9] = ev.cells d := e0
  have e1 : [c10] = [Value.bool m1] := e1
  have e2 : [c11, c12] = [Value.int .i64 m2, Value.int .i64 m3] := e2
  refine ⟨⟨ev, m1, m2, m3⟩, d, ?_, hd, ⟨ok, r2, r3⟩⟩
  show [c0, c1, c2, c3, c4, c5, c6, c7, c8, c9] ++ ([c10] ++ [c11, c12]) = _
  rw [e0, e1, e2]; rfl
theorem opEnts : Opens Try.prog 24 (List Ent) := opens_list Try.underlying24 opEnt (by kernel_rfl) (by kernel_rfl)
theorem lst_5 {α : Type} {l : List α} (h : l.length = 5) : ∃ a0 a1 a2 a3 a4, l = [a0, a1, a2, a3, a4] := by
  match l, h with
  | [a0, a1, a2, a3, a4], _ => exact ⟨a0, a1, a2, a3, a4, rfl⟩
theorem opPrj : Opens Try.prog 23 Prj := by
  intro H enc w fuel cs x h hx
  obtain ⟨_, _, _, _, hl, _⟩ := DataW.trod_struct Try.underlying23 h
  obtain ⟨c0, c1, c2, c3, c4, rfl⟩ := lst_5 (hl.trans (by kernel_rfl))
  obtain ⟨m0, e0, r0⟩ := open_field (α := Int) (i := 0) Try.underlying23 h hx rfl (by kernel_rfl) opI
  obtain rfl : c0 = .int .i64 m0 := List.cons.inj e0 |>.1
  obtain ⟨m1, e1, r1⟩ := open_field (α := Int) (i := 1) Try.underlying23 h hx rfl (by kernel_rfl) opI
  obtain rfl : c1 = .int .i64 m1 := List.cons.inj e1 |>.1
  obtain ⟨m2, e2, r2⟩ := open_field (α := Int) (i := 2) Try.underlying23 h hx rfl (by kernel_rfl) opI
  obtain rfl : c2 = .int .i64 m2 := List.cons.inj e2 |>.1
  obtain ⟨m3, e3, r3⟩ := open_field (α := Int) (i := 3) Try.underlying23 h hx rfl (by kernel_rfl) opI
  obtain rfl : c3 = .int .i64 m3 := List.cons.inj e3 |>.1
  obtain ⟨m4, e4, r4⟩ := open_field (α := Int) (i := 4) Try.underlying23 h hx rfl (by kernel_rfl) opI
  obtain rfl : c4 = .int .i64 m4 := List.cons.inj e4 |>.1
  exact ⟨⟨m0, m1, m2, m3, m4⟩, rfl, ⟨r0, r1, r2, r3, r4⟩⟩
theorem open_ints {H : Type} {enc : TypeId × Value → H} {W : World} {base : Nat} {v : Value} {d : DataW H} {ps : List MemPlace} (hval : Value.okWide Try.prog W .any base 25 v) (h : DataW.Trod enc Try.prog W 0 (fun _ => true) true 25 v d ps) (hx : light Try.prog 25 d) : ∃ l : List Int, RdS W (inHeap W) v l := by
  obtain ⟨a, len, cap, rfl⟩ := okWide_slice Try.underlying25 hval
  obtain ⟨fuel, hf⟩ := h
  obtain ⟨l, v, he, hr⟩ := opIs H enc W fuel _ _ hf hx
  obtain rfl := List.cons.inj he |>.1
  exact ⟨l, hr⟩
theorem open_ents {H : Type} {enc : TypeId × Value → H} {W : World} {base : Nat} {v : Value} {d : DataW H} {ps : List MemPlace} (hval : Value.okWide Try.prog W .any base 24 v) (h : DataW.Trod enc Try.prog W 0 (fun _ => true) true 24 v d ps) (hx : light Try.prog 24 d) : ∃ l : List Ent, RdS W (inHeap W) v l := by
  obtain ⟨a, len, cap, rfl⟩ := okWide_slice Try.underlying24 hval
  obtain ⟨fuel, hf⟩ := h
  obtain ⟨l, v, he, hr⟩ := opEnts H enc W fuel _ _ hf hx
  obtain rfl := List.cons.inj he |>.1
  exact ⟨l, hr⟩
theorem open_int {H : Type} {enc : TypeId × Value → H} {W : World} {base : Nat} {v : Value} {d : DataW H} {ps : List MemPlace} (hval : Value.okWide Try.prog W .any base 3 v) (h : DataW.Trod enc Try.prog W 0 (fun _ => true) true 3 v d ps) (hx : light Try.prog 3 d) : ∃ n : Int, v = .int .i64 n ∧ InR n := by
  obtain ⟨n, rfl⟩ := okWide_int Try.underlying3 hval
  obtain ⟨fuel, hf⟩ := h
  obtain ⟨m, he, hr⟩ := opI H enc W fuel _ _ hf hx
  obtain rfl : n = m := by
    have := List.cons.inj he |>.1
    cases this; rfl
  exact ⟨n, rfl, hr⟩
theorem open_prj {H : Type} {enc : TypeId × Value → H} {W : World} {base : Nat} {v : Value} {d : DataW H} {ps : List MemPlace} (hval : Value.okWide Try.prog W .any base 23 v) (h : DataW.Trod enc Try.prog W 0 (fun _ => true) true 23 v d ps) (hx : light Try.prog 23 d) : ∃ p : Prj, v = .agg (p.cells).toArray ∧ p.Ok := by
  obtain ⟨cs, rfl, _⟩ := okWide_struct Try.underlying23 hval
  obtain ⟨fuel, hf⟩ := h
  obtain ⟨e, he, ho⟩ := opPrj H enc W fuel _ _ hf hx
  refine ⟨e, ?_, ho⟩
  have : cs.toList = e.cells := he
  rw [← this]
theorem Try.own : ownKnob Try.prog.godebug = none := by kernel_rfl
theorem Try.laidOut : laidOutB Try.prog = true := by kernel_rfl
end Go.Proofs.Ytbbpmhfcgoljdaa
