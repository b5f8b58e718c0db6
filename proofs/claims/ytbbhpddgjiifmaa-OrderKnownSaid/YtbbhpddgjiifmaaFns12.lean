/- Steps of the proofs of this seat: part Fns12. -/
import Derived.Test.YtbbhpddgjiifmaaFns11
set_option linter.unusedSimpArgs false
set_option linter.unusedVariables false
namespace Go.Proofs.Ytbbhpddgjiifmaa
open Go.Proofs Go.RowKit

set_option maxHeartbeats 4000000 in
theorem C_works {w : World}  : Ret Try.prog 10 [] w (fun r w' => r = .bool true ∧ Ext w w') := by
  refine Calls_of_WP (args := []) Try.func10 rfl rfl ?_
  refine WP_seq ?_
  refine WP_region0 (by kernel_rfl) (fun _ => ?_)
  refine st (ov_assign (v := .bool false) rfl ?_)
  refine st_nil ?_
  refine WP_seq ?_
  refine WP_region0 (by kernel_rfl) (fun _ => ?_)
  refine st (ov_call (f := 24) (vals := []) (cap := []) (show _ = (.func (.func 24) #[] #[] : Value) from rfl) rfl Try.call24 C_three ?_)
  rintro v3 w1 ⟨hx1, hr2⟩
  have hx1s := hx1.size
  refine st (ov_assign (v := v3) rfl ?_)
  refine st_nil ?_
  refine WP_seq ?_
  refine WP_draw Ext (AL [fun v w => v = (v3 : Value), fun v w => v = (.pointer (some ⟨sb v3, so v3 + 1 * 10, none⟩) : Value), fun v w => v = (.agg ((ev3.getD 1 default).cells (cellV w1 (sb v3) (so v3 + 1 * 10 + 3))).toArray : Value), fun v w => v = (v3 : Value), fun v w => v = (.pointer (some ⟨sb v3, so v3 + 2 * 10, none⟩) : Value), fun v w => v = (.agg ((ev3.getD 2 default).cells (cellV w1 (sb v3) (so v3 + 2 * 10 + 3))).toArray : Value), fun v w => v = (v3 : Value), fun v w => v = (.pointer (some ⟨sb v3, so v3 + 0 * 10, none⟩) : Value), fun v w => v = (.agg ((ev3.getD 0 default).cells (cellV w1 (sb v3) (so v3 + 0 * 10 + 3))).toArray : Value)]) [[], [0], [0, 1], [], [3], [3, 4], [], [6], [6, 7], [0, 1, 2, 3, 4, 5, 6, 7, 8], [0, 1, 2, 3, 4, 5, 6, 7, 8, 9], [0, 1, 2, 3, 4, 5, 6, 7, 8, 9, 10]] 9 (by kernel_rfl) (by kernel_rfl) (by kernel_rfl) (fun w => Chg.refl _ w) (fun _ _ _ h1 h2 => h1.trans h2) (stabL ⟨fun _ _ _ _ h => h, fun _ _ _ _ h => h, fun _ _ _ _ h => h, fun _ _ _ _ h => h, fun _ _ _ _ h => h, fun _ _ _ _ h => h, fun _ _ _ _ h => h, fun _ _ _ _ h => h, fun _ _ _ _ h => h, trivial⟩) ?_
  intro w2 qh1 qh2 qh3 qh4
  have hx4 := ext_same qh1 qh2 qh3 qh4
  refine ⟨⟨?_, ?_, ?_, ?_, ?_, ?_, ?_, ?_, ?_, trivial⟩, ?_⟩
  · intro vals w3 hR5 hA
    have hs6 := hR5.size
    refine obl rfl ?_
    exact ov_move (v := v3) rfl ⟨Chg.refl _ _, rfl⟩
  · intro vals w4 hR7 hA
    have hs8 := hR7.size
    have e0 : (vals 0) = (v3 : Value) := hA 0 (by decide)
    refine obl rfl ?_
    have hi9 : 1 < ev3.length := by decide
    have hi10 : 1 < ev3.length := by decide
    obtain ⟨hc10, hd10, hok10⟩ := hr2.ev hi10
    rw [← getD_at default hi10] at hc10 hd10 hok10
    exact ov_indexAddrN (k := 10) (i := 1) Try.underlying22 Try.sizeOf29 (show _ = (v3 : Value) from e0) hr2.sl rfl hi9 ⟨Chg.refl _ _, rfl⟩
  · intro vals w5 hR11 hA
    have hs12 := hR11.size
    have e1 : (vals 1) = (.pointer (some ⟨sb v3, so v3 + 1 * 10, none⟩) : Value) := hA 1 (by decide)
    refine obl rfl ?_
    have hi13 : 1 < ev3.length := by decide
    obtain ⟨hc13, hd13, hok13⟩ := hr2.ev hi13
    rw [← getD_at default hi13] at hc13 hd13 hok13
    have h14 := hc13.mono (fun hb => (Chg.trans hx4 hR11).block _ hb (fun h => h))
    exact ov_loadk (k := 10) Try.isAgg29 Try.sizeOf29 rfl (show _ = (.pointer (some ⟨sb v3, so v3 + 1 * 10, none⟩) : Value) from e1) h14 ⟨Chg.refl _ _, rfl⟩
  · intro vals w6 hR15 hA
    have hs16 := hR15.size
    refine obl rfl ?_
    exact ov_move (v := v3) rfl ⟨Chg.refl _ _, rfl⟩
  · intro vals w7 hR17 hA
    have hs18 := hR17.size
    have e3 : (vals 3) = (v3 : Value) := hA 3 (by decide)
    refine obl rfl ?_
    have hi19 : 2 < ev3.length := by decide
    have hi20 : 2 < ev3.length := by decide
    obtain ⟨hc20, hd20, hok20⟩ := hr2.ev hi20
    rw [← getD_at default hi20] at hc20 hd20 hok20
    exact ov_indexAddrN (k := 10) (i := 2) Try.underlying22 Try.sizeOf29 (show _ = (v3 : Value) from e3) hr2.sl rfl hi19 ⟨Chg.refl _ _, rfl⟩
  · intro vals w8 hR21 hA
    have hs22 := hR21.size
    have e4 : (vals 4) = (.pointer (some ⟨sb v3, so v3 + 2 * 10, none⟩) : Value) := hA 4 (by decide)
    refine obl rfl ?_
    have hi23 : 2 < ev3.length := by decide
    obtain ⟨hc23, hd23, hok23⟩ := hr2.ev hi23
    rw [← getD_at default hi23] at hc23 hd23 hok23
    have h24 := hc23.mono (fun hb => (Chg.trans hx4 hR21).block _ hb (fun h => h))
    exact ov_loadk (k := 10) Try.isAgg29 Try.sizeOf29 rfl (show _ = (.pointer (some ⟨sb v3, so v3 + 2 * 10, none⟩) : Value) from e4) h24 ⟨Chg.refl _ _, rfl⟩
  · intro vals w9 hR25 hA
    have hs26 := hR25.size
    refine obl rfl ?_
    exact ov_move (v := v3) rfl ⟨Chg.refl _ _, rfl⟩
  · intro vals w10 hR27 hA
    have hs28 := hR27.size
    have e6 : (vals 6) = (v3 : Value) := hA 6 (by decide)
    refine obl rfl ?_
    have hi29 : 0 < ev3.length := by decide
    have hi30 : 0 < ev3.length := by decide
    obtain ⟨hc30, hd30, hok30⟩ := hr2.ev hi30
    rw [← getD_at default hi30] at hc30 hd30 hok30
    exact ov_indexAddrN (k := 10) (i := 0) Try.underlying22 Try.sizeOf29 (show _ = (v3 : Value) from e6) hr2.sl rfl hi29 ⟨Chg.refl _ _, rfl⟩
  · intro vals w11 hR31 hA
    have hs32 := hR31.size
    have e7 : (vals 7) = (.pointer (some ⟨sb v3, so v3 + 0 * 10, none⟩) : Value) := hA 7 (by decide)
    refine obl rfl ?_
    have hi33 : 0 < ev3.length := by decide
    obtain ⟨hc33, hd33, hok33⟩ := hr2.ev hi33
    rw [← getD_at default hi33] at hc33 hd33 hok33
    have h34 := hc33.mono (fun hb => (Chg.trans hx4 hR31).block _ hb (fun h => h))
    exact ov_loadk (k := 10) Try.isAgg29 Try.sizeOf29 rfl (show _ = (.pointer (some ⟨sb v3, so v3 + 0 * 10, none⟩) : Value) from e7) h34 ⟨Chg.refl _ _, rfl⟩
  intro vals w12 hR35 hA
  have hs36 := hR35.size
  have hs37 := hx4.size
  have e2 : (vals 2) = (.agg ((ev3.getD 1 default).cells (cellV w1 (sb v3) (so v3 + 1 * 10 + 3))).toArray : Value) := hA 2 (by decide)
  have e5 : (vals 5) = (.agg ((ev3.getD 2 default).cells (cellV w1 (sb v3) (so v3 + 2 * 10 + 3))).toArray : Value) := hA 5 (by decide)
  have e8 : (vals 8) = (.agg ((ev3.getD 0 default).cells (cellV w1 (sb v3) (so v3 + 0 * 10 + 3))).toArray : Value) := hA 8 (by decide)
  refine st_env (kv := [(0, .bool false), (3, v3), (1, v3), (6, .agg ((ev3.getD 1 default).cells (cellV w1 (sb v3) (so v3 + 1 * 10 + 3))).toArray), (9, .agg ((ev3.getD 2 default).cells (cellV w1 (sb v3) (so v3 + 2 * 10 + 3))).toArray), (12, .agg ((ev3.getD 0 default).cells (cellV w1 (sb v3) (so v3 + 0 * 10 + 3))).toArray)]) ⟨rfl, rfl, rfl, e2, e5, e8, trivial⟩ (fun ρ12 => ?_)
  clear e2 e5 e8
  clear hA qh1 qh2 qh3 qh4
  refine st (ov_buildSlice (k := 10) (parts' := [(0, .agg ((ev3.getD 1 default).cells (cellV w1 (sb v3) (so v3 + 1 * 10 + 3))).toArray), (1, .agg ((ev3.getD 2 default).cells (cellV w1 (sb v3) (so v3 + 2 * 10 + 3))).toArray), (2, .agg ((ev3.getD 0 default).cells (cellV w1 (sb v3) (so v3 + 0 * 10 + 3))).toArray)]) (c := #[.int .i64 ((ev3.getD 1 default).origin), .int .i64 ((ev3.getD 1 default).seq), .int .i64 ((ev3.getD 1 default).lam), (cellV w1 (sb v3) (so v3 + 1 * 10 + 3)), .int .i64 ((ev3.getD 1 default).typ), .int .i64 ((ev3.getD 1 default).agg), .int .i64 ((ev3.getD 1 default).field), .int .i64 ((ev3.getD 1 default).op), .int .i64 ((ev3.getD 1 default).arg), .int .i64 ((ev3.getD 1 default).key), .int .i64 ((ev3.getD 2 default).origin), .int .i64 ((ev3.getD 2 default).seq), .int .i64 ((ev3.getD 2 default).lam), (cellV w1 (sb v3) (so v3 + 2 * 10 + 3)), .int .i64 ((ev3.getD 2 default).typ), .int .i64 ((ev3.getD 2 default).agg), .int .i64 ((ev3.getD 2 default).field), .int .i64 ((ev3.getD 2 default).op), .int .i64 ((ev3.getD 2 default).arg), .int .i64 ((ev3.getD 2 default).key), .int .i64 ((ev3.getD 0 default).origin), .int .i64 ((ev3.getD 0 default).seq), .int .i64 ((ev3.getD 0 default).lam), (cellV w1 (sb v3) (so v3 + 0 * 10 + 3)), .int .i64 ((ev3.getD 0 default).typ), .int .i64 ((ev3.getD 0 default).agg), .int .i64 ((ev3.getD 0 default).field), .int .i64 ((ev3.getD 0 default).op), .int .i64 ((ev3.getD 0 default).arg), .int .i64 ((ev3.getD 0 default).key)]) Try.underlying22 Try.sizeOf29 Try.zeroValue29 (by decide) rfl (by kernel_rfl) (fun w13 b39 hn38 => ?_))
  have hb40 : w13.heap[b39]? = some (.cells #[.int .i64 ((ev3.getD 1 default).origin), .int .i64 ((ev3.getD 1 default).seq), .int .i64 ((ev3.getD 1 default).lam), (cellV w1 (sb v3) (so v3 + 1 * 10 + 3)), .int .i64 ((ev3.getD 1 default).typ), .int .i64 ((ev3.getD 1 default).agg), .int .i64 ((ev3.getD 1 default).field), .int .i64 ((ev3.getD 1 default).op), .int .i64 ((ev3.getD 1 default).arg), .int .i64 ((ev3.getD 1 default).key), .int .i64 ((ev3.getD 2 default).origin), .int .i64 ((ev3.getD 2 default).seq), .int .i64 ((ev3.getD 2 default).lam), (cellV w1 (sb v3) (so v3 + 2 * 10 + 3)), .int .i64 ((ev3.getD 2 default).typ), .int .i64 ((ev3.getD 2 default).agg), .int .i64 ((ev3.getD 2 default).field), .int .i64 ((ev3.getD 2 default).op), .int .i64 ((ev3.getD 2 default).arg), .int .i64 ((ev3.getD 2 default).key), .int .i64 ((ev3.getD 0 default).origin), .int .i64 ((ev3.getD 0 default).seq), .int .i64 ((ev3.getD 0 default).lam), (cellV w1 (sb v3) (so v3 + 0 * 10 + 3)), .int .i64 ((ev3.getD 0 default).typ), .int .i64 ((ev3.getD 0 default).agg), .int .i64 ((ev3.getD 0 default).field), .int .i64 ((ev3.getD 0 default).op), .int .i64 ((ev3.getD 0 default).arg), .int .i64 ((ev3.getD 0 default).key)] 29) := hn38.at_
  have hs41 := hn38.size; have hs41e := hn38.eq
  have hi43 : 1 < ev3.length := by decide
  obtain ⟨hc43, hd43, hok43⟩ := hr2.ev hi43
  rw [← getD_at default hi43] at hc43 hd43 hok43
  have h44 := hd43.ext (Chg.trans (Chg.trans hx4 hR35) hn38.ext)
  have hi45 : 2 < ev3.length := by decide
  obtain ⟨hc45, hd45, hok45⟩ := hr2.ev hi45
  rw [← getD_at default hi45] at hc45 hd45 hok45
  have h46 := hd45.ext (Chg.trans (Chg.trans hx4 hR35) hn38.ext)
  have hi47 : 0 < ev3.length := by decide
  obtain ⟨hc47, hd47, hok47⟩ := hr2.ev hi47
  rw [← getD_at default hi47] at hc47 hd47 hok47
  have h48 := hd47.ext (Chg.trans (Chg.trans hx4 hR35) hn38.ext)
  have hrd42 : RdS (α := Ev) w13 (fun _ => True) ((.slice (some ⟨b39, 0, none⟩) 3 3)) [(ev3.getD 1 default), (ev3.getD 2 default), (ev3.getD 0 default)] := Els.flat_at (α := Ev) (F := fun _ => True) (css := [(ev3.getD 1 default).cells (cellV w1 (sb v3) (so v3 + 1 * 10 + 3)), (ev3.getD 2 default).cells (cellV w1 (sb v3) (so v3 + 2 * 10 + 3)), (ev3.getD 0 default).cells (cellV w1 (sb v3) (so v3 + 0 * 10 + 3))]) (l := [(ev3.getD 1 default), (ev3.getD 2 default), (ev3.getD 0 default)]) ⟨(show Rep.rd _ _ ((ev3.getD 1 default).cells (cellV w1 (sb v3) (so v3 + 1 * 10 + 3))) (ev3.getD 1 default) from ⟨_, rfl, (h44).weak (fun _ _ _ => trivial), hok43⟩), (show Rep.rd _ _ ((ev3.getD 2 default).cells (cellV w1 (sb v3) (so v3 + 2 * 10 + 3))) (ev3.getD 2 default) from ⟨_, rfl, (h46).weak (fun _ _ _ => trivial), hok45⟩), (show Rep.rd _ _ ((ev3.getD 0 default).cells (cellV w1 (sb v3) (so v3 + 0 * 10 + 3))) (ev3.getD 0 default) from ⟨_, rfl, (h48).weak (fun _ _ _ => trivial), hok47⟩), trivial⟩ rfl hb40 trivial (by decide)
  refine st (ov_call (f := 18) (vals := [(.slice (some ⟨b39, 0, none⟩) 3 3)]) (cap := []) (show _ = (.func (.func 18) #[] #[] : Value) from rfl) rfl Try.call18 (C_Sort hrd42) ?_)
  rintro v51 w14 ⟨hx49, hf50⟩
  have hx49s := hx49.size
  have hf50r := hf50.rd
  refine st (ov_assign (v := v51) rfl ?_)
  refine st_nil ?_
  refine WP_seq ?_
  refine WP_draw Ext (AL [fun v w => v = (v3 : Value), fun v w => v = (.pointer (some ⟨sb v3, so v3 + 0 * 10, none⟩) : Value), fun v w => v = (.agg ((ev3.getD 0 default).cells (cellV w1 (sb v3) (so v3 + 0 * 10 + 3))).toArray : Value), fun v w => v = (v3 : Value), fun v w => v = (.pointer (some ⟨sb v3, so v3 + 1 * 10, none⟩) : Value), fun v w => v = (.agg ((ev3.getD 1 default).cells (cellV w1 (sb v3) (so v3 + 1 * 10 + 3))).toArray : Value), fun v w => v = (.bool (before (ev3.getD 0 default) (ev3.getD 1 default)) : Value), fun v w => v = (.bool (before (ev3.getD 0 default) (ev3.getD 1 default)) : Value), fun v w => v = (if (before (ev3.getD 0 default) (ev3.getD 1 default)) = true then (v3 : Value) else undef), fun v w => v = (if (before (ev3.getD 0 default) (ev3.getD 1 default)) = true then (.pointer (some ⟨sb v3, so v3 + 1 * 10, none⟩) : Value) else undef), fun v w => v = (if (before (ev3.getD 0 default) (ev3.getD 1 default)) = true then (.agg ((ev3.getD 1 default).cells (cellV w1 (sb v3) (so v3 + 1 * 10 + 3))).toArray : Value) else undef), fun v w => v = (if (before (ev3.getD 0 default) (ev3.getD 1 default)) = true then (v3 : Value) else undef), fun v w => v = (if (before (ev3.getD 0 default) (ev3.getD 1 default)) = true then (.pointer (some ⟨sb v3, so v3 + 0 * 10, none⟩) : Value) else undef), fun v w => v = (if (before (ev3.getD 0 default) (ev3.getD 1 default)) = true then (.agg ((ev3.getD 0 default).cells (cellV w1 (sb v3) (so v3 + 0 * 10 + 3))).toArray : Value) else undef), fun v w => v = (if (before (ev3.getD 0 default) (ev3.getD 1 default)) = true then (.bool (before (ev3.getD 1 default) (ev3.getD 0 default)) : Value) else undef), fun v w => v = (if (before (ev3.getD 0 default) (ev3.getD 1 default)) = true then (.bool (!(before (ev3.getD 1 default) (ev3.getD 0 default))) : Value) else undef), fun v w => v = (.bool ((before (ev3.getD 0 default) (ev3.getD 1 default)) && (!(before (ev3.getD 1 default) (ev3.getD 0 default)))) : Value), fun v w => v = (.bool ((before (ev3.getD 0 default) (ev3.getD 1 default)) && (!(before (ev3.getD 1 default) (ev3.getD 0 default)))) : Value), fun v w => v = (if ((before (ev3.getD 0 default) (ev3.getD 1 default)) && (!(before (ev3.getD 1 default) (ev3.getD 0 default)))) = true then (v3 : Value) else undef), fun v w => v = (if ((before (ev3.getD 0 default) (ev3.getD 1 default)) && (!(before (ev3.getD 1 default) (ev3.getD 0 default)))) = true then (.pointer (some ⟨sb v3, so v3 + 0 * 10, none⟩) : Value) else undef), fun v w => v = (if ((before (ev3.getD 0 default) (ev3.getD 1 default)) && (!(before (ev3.getD 1 default) (ev3.getD 0 default)))) = true then (.agg ((ev3.getD 0 default).cells (cellV w1 (sb v3) (so v3 + 0 * 10 + 3))).toArray : Value) else undef), fun v w => v = (if ((before (ev3.getD 0 default) (ev3.getD 1 default)) && (!(before (ev3.getD 1 default) (ev3.getD 0 default)))) = true then (v3 : Value) else undef), fun v w => v = (if ((before (ev3.getD 0 default) (ev3.getD 1 default)) && (!(before (ev3.getD 1 default) (ev3.getD 0 default)))) = true then (.pointer (some ⟨sb v3, so v3 + 2 * 10, none⟩) : Value) else undef), fun v w => v = (if ((before (ev3.getD 0 default) (ev3.getD 1 default)) && (!(before (ev3.getD 1 default) (ev3.getD 0 default)))) = true then (.agg ((ev3.getD 2 default).cells (cellV w1 (sb v3) (so v3 + 2 * 10 + 3))).toArray : Value) else undef), fun v w => v = (if ((before (ev3.getD 0 default) (ev3.getD 1 default)) && (!(before (ev3.getD 1 default) (ev3.getD 0 default)))) = true then (.bool (apart (ev3.getD 0 default) (ev3.getD 2 default)) : Value) else undef), fun v w => v = (.bool (((before (ev3.getD 0 default) (ev3.getD 1 default)) && (!(before (ev3.getD 1 default) (ev3.getD 0 default)))) && (apart (ev3.getD 0 default) (ev3.getD 2 default))) : Value), fun v w => v = (.bool (((before (ev3.getD 0 default) (ev3.getD 1 default)) && (!(before (ev3.getD 1 default) (ev3.getD 0 default)))) && (apart (ev3.getD 0 default) (ev3.getD 2 default))) : Value), fun v w => v = (if (((before (ev3.getD 0 default) (ev3.getD 1 default)) && (!(before (ev3.getD 1 default) (ev3.getD 0 default)))) && (apart (ev3.getD 0 default) (ev3.getD 2 default))) = true then (v3 : Value) else undef), fun v w => v = (if (((before (ev3.getD 0 default) (ev3.getD 1 default)) && (!(before (ev3.getD 1 default) (ev3.getD 0 default)))) && (apart (ev3.getD 0 default) (ev3.getD 2 default))) = true then (.pointer (some ⟨sb v3, so v3 + 0 * 10, none⟩) : Value) else undef), fun v w => v = (if (((before (ev3.getD 0 default) (ev3.getD 1 default)) && (!(before (ev3.getD 1 default) (ev3.getD 0 default)))) && (apart (ev3.getD 0 default) (ev3.getD 2 default))) = true then (.agg ((ev3.getD 0 default).cells (cellV w1 (sb v3) (so v3 + 0 * 10 + 3))).toArray : Value) else undef), fun v w => v = (if (((before (ev3.getD 0 default) (ev3.getD 1 default)) && (!(before (ev3.getD 1 default) (ev3.getD 0 default)))) && (apart (ev3.getD 0 default) (ev3.getD 2 default))) = true then (v3 : Value) else undef), fun v w => v = (if (((before (ev3.getD 0 default) (ev3.getD 1 default)) && (!(before (ev3.getD 1 default) (ev3.getD 0 default)))) && (apart (ev3.getD 0 default) (ev3.getD 2 default))) = true then (.pointer (some ⟨sb v3, so v3 + 0 * 10, none⟩) : Value) else undef), fun v w => v = (if (((before (ev3.getD 0 default) (ev3.getD 1 default)) && (!(before (ev3.getD 1 default) (ev3.getD 0 default)))) && (apart (ev3.getD 0 default) (ev3.getD 2 default))) = true then (.agg ((ev3.getD 0 default).cells (cellV w1 (sb v3) (so v3 + 0 * 10 + 3))).toArray : Value) else undef), fun v w => v = (if (((before (ev3.getD 0 default) (ev3.getD 1 default)) && (!(before (ev3.getD 1 default) (ev3.getD 0 default)))) && (apart (ev3.getD 0 default) (ev3.getD 2 default))) = true then (.bool (apart (ev3.getD 0 default) (ev3.getD 0 default)) : Value) else undef), fun v w => v = (if (((before (ev3.getD 0 default) (ev3.getD 1 default)) && (!(before (ev3.getD 1 default) (ev3.getD 0 default)))) && (apart (ev3.getD 0 default) (ev3.getD 2 default))) = true then (.bool (!(apart (ev3.getD 0 default) (ev3.getD 0 default))) : Value) else undef), fun v w => v = (.bool ((((before (ev3.getD 0 default) (ev3.getD 1 default)) && (!(before (ev3.getD 1 default) (ev3.getD 0 default)))) && (apart (ev3.getD 0 default) (ev3.getD 2 default))) && (!(apart (ev3.getD 0 default) (ev3.getD 0 default)))) : Value), fun v w => v = (.bool ((((before (ev3.getD 0 default) (ev3.getD 1 default)) && (!(before (ev3.getD 1 default) (ev3.getD 0 default)))) && (apart (ev3.getD 0 default) (ev3.getD 2 default))) && (!(apart (ev3.getD 0 default) (ev3.getD 0 default)))) : Value), fun v w => v = (if ((((before (ev3.getD 0 default) (ev3.getD 1 default)) && (!(before (ev3.getD 1 default) (ev3.getD 0 default)))) && (apart (ev3.getD 0 default) (ev3.getD 2 default))) && (!(apart (ev3.getD 0 default) (ev3.getD 0 default)))) = true then (v3 : Value) else undef), fun v w => v = (if ((((before (ev3.getD 0 default) (ev3.getD 1 default)) && (!(before (ev3.getD 1 default) (ev3.getD 0 default)))) && (apart (ev3.getD 0 default) (ev3.getD 2 default))) && (!(apart (ev3.getD 0 default) (ev3.getD 0 default)))) = true then (.pointer (some ⟨sb v3, so v3 + 0 * 10, none⟩) : Value) else undef), fun v w => v = (if ((((before (ev3.getD 0 default) (ev3.getD 1 default)) && (!(before (ev3.getD 1 default) (ev3.getD 0 default)))) && (apart (ev3.getD 0 default) (ev3.getD 2 default))) && (!(apart (ev3.getD 0 default) (ev3.getD 0 default)))) = true then (.agg ((ev3.getD 0 default).cells (cellV w1 (sb v3) (so v3 + 0 * 10 + 3))).toArray : Value) else undef), fun v w => v = (if ((((before (ev3.getD 0 default) (ev3.getD 1 default)) && (!(before (ev3.getD 1 default) (ev3.getD 0 default)))) && (apart (ev3.getD 0 default) (ev3.getD 2 default))) && (!(apart (ev3.getD 0 default) (ev3.getD 0 default)))) = true then (v3 : Value) else undef), fun v w => v = (if ((((before (ev3.getD 0 default) (ev3.getD 1 default)) && (!(before (ev3.getD 1 default) (ev3.getD 0 default)))) && (apart (ev3.getD 0 default) (ev3.getD 2 default))) && (!(apart (ev3.getD 0 default) (ev3.getD 0 default)))) = true then (.pointer (some ⟨sb v3, so v3 + 2 * 10, none⟩) : Value) else undef), fun v w => v = (if ((((before (ev3.getD 0 default) (ev3.getD 1 default)) && (!(before (ev3.getD 1 default) (ev3.getD 0 default)))) && (apart (ev3.getD 0 default) (ev3.getD 2 default))) && (!(apart (ev3.getD 0 default) (ev3.getD 0 default)))) = true then (.agg ((ev3.getD 2 default).cells (cellV w1 (sb v3) (so v3 + 2 * 10 + 3))).toArray : Value) else undef), fun v w => v = (if ((((before (ev3.getD 0 default) (ev3.getD 1 default)) && (!(before (ev3.getD 1 default) (ev3.getD 0 default)))) && (apart (ev3.getD 0 default) (ev3.getD 2 default))) && (!(apart (ev3.getD 0 default) (ev3.getD 0 default)))) = true then (.bool (less (ev3.getD 0 default) (ev3.getD 2 default)) : Value) else undef), fun v w => v = (.bool (((((before (ev3.getD 0 default) (ev3.getD 1 default)) && (!(before (ev3.getD 1 default) (ev3.getD 0 default)))) && (apart (ev3.getD 0 default) (ev3.getD 2 default))) && (!(apart (ev3.getD 0 default) (ev3.getD 0 default)))) && (less (ev3.getD 0 default) (ev3.getD 2 default))) : Value), fun v w => v = (.bool (((((before (ev3.getD 0 default) (ev3.getD 1 default)) && (!(before (ev3.getD 1 default) (ev3.getD 0 default)))) && (apart (ev3.getD 0 default) (ev3.getD 2 default))) && (!(apart (ev3.getD 0 default) (ev3.getD 0 default)))) && (less (ev3.getD 0 default) (ev3.getD 2 default))) : Value), fun v w => v = (if (((((before (ev3.getD 0 default) (ev3.getD 1 default)) && (!(before (ev3.getD 1 default) (ev3.getD 0 default)))) && (apart (ev3.getD 0 default) (ev3.getD 2 default))) && (!(apart (ev3.getD 0 default) (ev3.getD 0 default)))) && (less (ev3.getD 0 default) (ev3.getD 2 default))) = true then (v51 : Value) else undef), fun v w => v = (if (((((before (ev3.getD 0 default) (ev3.getD 1 default)) && (!(before (ev3.getD 1 default) (ev3.getD 0 default)))) && (apart (ev3.getD 0 default) (ev3.getD 2 default))) && (!(apart (ev3.getD 0 default) (ev3.getD 0 default)))) && (less (ev3.getD 0 default) (ev3.getD 2 default))) = true then (v3 : Value) else undef), fun v w => v = (if (((((before (ev3.getD 0 default) (ev3.getD 1 default)) && (!(before (ev3.getD 1 default) (ev3.getD 0 default)))) && (apart (ev3.getD 0 default) (ev3.getD 2 default))) && (!(apart (ev3.getD 0 default) (ev3.getD 0 default)))) && (less (ev3.getD 0 default) (ev3.getD 2 default))) = true then (.pointer (some ⟨sb v3, so v3 + 0 * 10, none⟩) : Value) else undef), fun v w => v = (if (((((before (ev3.getD 0 default) (ev3.getD 1 default)) && (!(before (ev3.getD 1 default) (ev3.getD 0 default)))) && (apart (ev3.getD 0 default) (ev3.getD 2 default))) && (!(apart (ev3.getD 0 default) (ev3.getD 0 default)))) && (less (ev3.getD 0 default) (ev3.getD 2 default))) = true then (.agg ((ev3.getD 0 default).cells (cellV w1 (sb v3) (so v3 + 0 * 10 + 3))).toArray : Value) else undef), fun v w => v = (if (((((before (ev3.getD 0 default) (ev3.getD 1 default)) && (!(before (ev3.getD 1 default) (ev3.getD 0 default)))) && (apart (ev3.getD 0 default) (ev3.getD 2 default))) && (!(apart (ev3.getD 0 default) (ev3.getD 0 default)))) && (less (ev3.getD 0 default) (ev3.getD 2 default))) = true then (v3 : Value) else undef), fun v w => v = (if (((((before (ev3.getD 0 default) (ev3.getD 1 default)) && (!(before (ev3.getD 1 default) (ev3.getD 0 default)))) && (apart (ev3.getD 0 default) (ev3.getD 2 default))) && (!(apart (ev3.getD 0 default) (ev3.getD 0 default)))) && (less (ev3.getD 0 default) (ev3.getD 2 default))) = true then (.pointer (some ⟨sb v3, so v3 + 2 * 10, none⟩) : Value) else undef), fun v w => v = (if (((((before (ev3.getD 0 default) (ev3.getD 1 default)) && (!(before (ev3.getD 1 default) (ev3.getD 0 default)))) && (apart (ev3.getD 0 default) (ev3.getD 2 default))) && (!(apart (ev3.getD 0 default) (ev3.getD 0 default)))) && (less (ev3.getD 0 default) (ev3.getD 2 default))) = true then (.agg ((ev3.getD 2 default).cells (cellV w1 (sb v3) (so v3 + 2 * 10 + 3))).toArray : Value) else undef), fun v w => v = (if (((((before (ev3.getD 0 default) (ev3.getD 1 default)) && (!(before (ev3.getD 1 default) (ev3.getD 0 default)))) && (apart (ev3.getD 0 default) (ev3.getD 2 default))) && (!(apart (ev3.getD 0 default) (ev3.getD 0 default)))) && (less (ev3.getD 0 default) (ev3.getD 2 default))) = true then (v3 : Value) else undef), fun v w => v = (if (((((before (ev3.getD 0 default) (ev3.getD 1 default)) && (!(before (ev3.getD 1 default) (ev3.getD 0 default)))) && (apart (ev3.getD 0 default) (ev3.getD 2 default))) && (!(apart (ev3.getD 0 default) (ev3.getD 0 default)))) && (less (ev3.getD 0 default) (ev3.getD 2 default))) = true then (.pointer (some ⟨sb v3, so v3 + 1 * 10, none⟩) : Value) else undef), fun v w => v = (if (((((before (ev3.getD 0 default) (ev3.getD 1 default)) && (!(before (ev3.getD 1 default) (ev3.getD 0 default)))) && (apart (ev3.getD 0 default) (ev3.getD 2 default))) && (!(apart (ev3.getD 0 default) (ev3.getD 0 default)))) && (less (ev3.getD 0 default) (ev3.getD 2 default))) = true then (.agg ((ev3.getD 1 default).cells (cellV w1 (sb v3) (so v3 + 1 * 10 + 3))).toArray : Value) else undef), fun v w => (((((before (ev3.getD 0 default) (ev3.getD 1 default)) && (!(before (ev3.getD 1 default) (ev3.getD 0 default)))) && (apart (ev3.getD 0 default) (ev3.getD 2 default))) && (!(apart (ev3.getD 0 default) (ev3.getD 0 default)))) && (less (ev3.getD 0 default) (ev3.getD 2 default))) = true → RdS (α := Ev) w (fun _ => True) v ([(ev3.getD 0 default), (ev3.getD 2 default), (ev3.getD 1 default)]), fun v w => v = (if (((((before (ev3.getD 0 default) (ev3.getD 1 default)) && (!(before (ev3.getD 1 default) (ev3.getD 0 default)))) && (apart (ev3.getD 0 default) (ev3.getD 2 default))) && (!(apart (ev3.getD 0 default) (ev3.getD 0 default)))) && (less (ev3.getD 0 default) (ev3.getD 2 default))) = true then (.bool (decide ((insFrom 0 ((([(ev3.getD 1 default), (ev3.getD 2 default), (ev3.getD 0 default)])).length - (0 + 1)) (0 + 1) (([(ev3.getD 1 default), (ev3.getD 2 default), (ev3.getD 0 default)]))) = ([(ev3.getD 0 default), (ev3.getD 2 default), (ev3.getD 1 default)]))) : Value) else undef), fun v w => v = (.bool ((((((before (ev3.getD 0 default) (ev3.getD 1 default)) && (!(before (ev3.getD 1 default) (ev3.getD 0 default)))) && (apart (ev3.getD 0 default) (ev3.getD 2 default))) && (!(apart (ev3.getD 0 default) (ev3.getD 0 default)))) && (less (ev3.getD 0 default) (ev3.getD 2 default))) && (decide ((insFrom 0 ((([(ev3.getD 1 default), (ev3.getD 2 default), (ev3.getD 0 default)])).length - (0 + 1)) (0 + 1) (([(ev3.getD 1 default), (ev3.getD 2 default), (ev3.getD 0 default)]))) = ([(ev3.getD 0 default), (ev3.getD 2 default), (ev3.getD 1 default)])))) : Value), fun v w => v = (.bool ((((((before (ev3.getD 0 default) (ev3.getD 1 default)) && (!(before (ev3.getD 1 default) (ev3.getD 0 default)))) && (apart (ev3.getD 0 default) (ev3.getD 2 default))) && (!(apart (ev3.getD 0 default) (ev3.getD 0 default)))) && (less (ev3.getD 0 default) (ev3.getD 2 default))) && (decide ((insFrom 0 ((([(ev3.getD 1 default), (ev3.getD 2 default), (ev3.getD 0 default)])).length - (0 + 1)) (0 + 1) (([(ev3.getD 1 default), (ev3.getD 2 default), (ev3.getD 0 default)]))) = ([(ev3.getD 0 default), (ev3.getD 2 default), (ev3.getD 1 default)])))) : Value)]) [[], [0], [0, 1], [], [3], [3, 4], [0, 1, 2, 3, 4, 5], [0, 1, 2, 3, 4, 5, 6], [0, 1, 2, 3, 4, 5, 6, 7], [0, 1, 2, 3, 4, 5, 6, 7, 8], [0, 1, 2, 3, 4, 5, 6, 7, 8, 9], [0, 1, 2, 3, 4, 5, 6, 7], [0, 1, 2, 3, 4, 5, 6, 7, 11], [0, 1, 2, 3, 4, 5, 6, 7, 11, 12], [0, 1, 2, 3, 4, 5, 6, 7, 8, 9, 10, 11, 12, 13], [0, 1, 2, 3, 4, 5, 6, 7, 8, 9, 10, 11, 12, 13, 14], [0, 1, 2, 3, 4, 5, 6, 7, 8, 9, 10, 11, 12, 13, 14, 15], [0, 1, 2, 3, 4, 5, 6, 7, 8, 9, 10, 11, 12, 13, 14, 15, 16], [0, 1, 2, 3, 4, 5, 6, 7, 8, 9, 10, 11, 12, 13, 14, 15, 16, 17], [0, 1, 2, 3, 4, 5, 6, 7, 8, 9, 10, 11, 12, 13, 14, 15, 16, 17, 18], [0, 1, 2, 3, 4, 5, 6, 7, 8, 9, 10, 11, 12, 13, 14, 15, 16, 17, 18, 19], [0, 1, 2, 3, 4, 5, 6, 7, 8, 9, 10, 11, 12, 13, 14, 15, 16, 17], [0, 1, 2, 3, 4, 5, 6, 7, 8, 9, 10, 11, 12, 13, 14, 15, 16, 17, 21], [0, 1, 2, 3, 4, 5, 6, 7, 8, 9, 10, 11, 12, 13, 14, 15, 16, 17, 21, 22], [0, 1, 2, 3, 4, 5, 6, 7, 8, 9, 10, 11, 12, 13, 14, 15, 16, 17, 18, 19, 20, 21, 22, 23], [0, 1, 2, 3, 4, 5, 6, 7, 8, 9, 10, 11, 12, 13, 14, 15, 16, 17, 18, 19, 20, 21, 22, 23, 24], [0, 1, 2, 3, 4, 5, 6, 7, 8, 9, 10, 11, 12, 13, 14, 15, 16, 17, 18, 19, 20, 21, 22, 23, 24, 25], [0, 1, 2, 3, 4, 5, 6, 7, 8, 9, 10, 11, 12, 13, 14, 15, 16, 17, 18, 19, 20, 21, 22, 23, 24, 25, 26], [0, 1, 2, 3, 4, 5, 6, 7, 8, 9, 10, 11, 12, 13, 14, 15, 16, 17, 18, 19, 20, 21, 22, 23, 24, 25, 26, 27], [0, 1, 2, 3, 4, 5, 6, 7, 8, 9, 10, 11, 12, 13, 14, 15, 16, 17, 18, 19, 20, 21, 22, 23, 24, 25, 26, 27, 28], [0, 1, 2, 3, 4, 5, 6, 7, 8, 9, 10, 11, 12, 13, 14, 15, 16, 17, 18, 19, 20, 21, 22, 23, 24, 25, 26], [0, 1, 2, 3, 4, 5, 6, 7, 8, 9, 10, 11, 12, 13, 14, 15, 16, 17, 18, 19, 20, 21, 22, 23, 24, 25, 26, 30], [0, 1, 2, 3, 4, 5, 6, 7, 8, 9, 10, 11, 12, 13, 14, 15, 16, 17, 18, 19, 20, 21, 22, 23, 24, 25, 26, 30, 31], [0, 1, 2, 3, 4, 5, 6, 7, 8, 9, 10, 11, 12, 13, 14, 15, 16, 17, 18, 19, 20, 21, 22, 23, 24, 25, 26, 27, 28, 29, 30, 31, 32], [0, 1, 2, 3, 4, 5, 6, 7, 8, 9, 10, 11, 12, 13, 14, 15, 16, 17, 18, 19, 20, 21, 22, 23, 24, 25, 26, 27, 28, 29, 30, 31, 32, 33], [0, 1, 2, 3, 4, 5, 6, 7, 8, 9, 10, 11, 12, 13, 14, 15, 16, 17, 18, 19, 20, 21, 22, 23, 24, 25, 26, 27, 28, 29, 30, 31, 32, 33, 34], [0, 1, 2, 3, 4, 5, 6, 7, 8, 9, 10, 11, 12, 13, 14, 15, 16, 17, 18, 19, 20, 21, 22, 23, 24, 25, 26, 27, 28, 29, 30, 31, 32, 33, 34, 35], [0, 1, 2, 3, 4, 5, 6, 7, 8, 9, 10, 11, 12, 13, 14, 15, 16, 17, 18, 19, 20, 21, 22, 23, 24, 25, 26, 27, 28, 29, 30, 31, 32, 33, 34, 35, 36], [0, 1, 2, 3, 4, 5, 6, 7, 8, 9, 10, 11, 12, 13, 14, 15, 16, 17, 18, 19, 20, 21, 22, 23, 24, 25, 26, 27, 28, 29, 30, 31, 32, 33, 34, 35, 36, 37], [0, 1, 2, 3, 4, 5, 6, 7, 8, 9, 10, 11, 12, 13, 14, 15, 16, 17, 18, 19, 20, 21, 22, 23, 24, 25, 26, 27, 28, 29, 30, 31, 32, 33, 34, 35, 36, 37, 38], [0, 1, 2, 3, 4, 5, 6, 7, 8, 9, 10, 11, 12, 13, 14, 15, 16, 17, 18, 19, 20, 21, 22, 23, 24, 25, 26, 27, 28, 29, 30, 31, 32, 33, 34, 35, 36], [0, 1, 2, 3, 4, 5, 6, 7, 8, 9, 10, 11, 12, 13, 14, 15, 16, 17, 18, 19, 20, 21, 22, 23, 24, 25, 26, 27, 28, 29, 30, 31, 32, 33, 34, 35, 36, 40], [0, 1, 2, 3, 4, 5, 6, 7, 8, 9, 10, 11, 12, 13, 14, 15, 16, 17, 18, 19, 20, 21, 22, 23, 24, 25, 26, 27, 28, 29, 30, 31, 32, 33, 34, 35, 36, 40, 41], [0, 1, 2, 3, 4, 5, 6, 7, 8, 9, 10, 11, 12, 13, 14, 15, 16, 17, 18, 19, 20, 21, 22, 23, 24, 25, 26, 27, 28, 29, 30, 31, 32, 33, 34, 35, 36, 37, 38, 39, 40, 41, 42], [0, 1, 2, 3, 4, 5, 6, 7, 8, 9, 10, 11, 12, 13, 14, 15, 16, 17, 18, 19, 20, 21, 22, 23, 24, 25, 26, 27, 28, 29, 30, 31, 32, 33, 34, 35, 36, 37, 38, 39, 40, 41, 42, 43], [0, 1, 2, 3, 4, 5, 6, 7, 8, 9, 10, 11, 12, 13, 14, 15, 16, 17, 18, 19, 20, 21, 22, 23, 24, 25, 26, 27, 28, 29, 30, 31, 32, 33, 34, 35, 36, 37, 38, 39, 40, 41, 42, 43, 44], [0, 1, 2, 3, 4, 5, 6, 7, 8, 9, 10, 11, 12, 13, 14, 15, 16, 17, 18, 19, 20, 21, 22, 23, 24, 25, 26, 27, 28, 29, 30, 31, 32, 33, 34, 35, 36, 37, 38, 39, 40, 41, 42, 43, 44, 45], [0, 1, 2, 3, 4, 5, 6, 7, 8, 9, 10, 11, 12, 13, 14, 15, 16, 17, 18, 19, 20, 21, 22, 23, 24, 25, 26, 27, 28, 29, 30, 31, 32, 33, 34, 35, 36, 37, 38, 39, 40, 41, 42, 43, 44, 45], [0, 1, 2, 3, 4, 5, 6, 7, 8, 9, 10, 11, 12, 13, 14, 15, 16, 17, 18, 19, 20, 21, 22, 23, 24, 25, 26, 27, 28, 29, 30, 31, 32, 33, 34, 35, 36, 37, 38, 39, 40, 41, 42, 43, 44, 45, 47], [0, 1, 2, 3, 4, 5, 6, 7, 8, 9, 10, 11, 12, 13, 14, 15, 16, 17, 18, 19, 20, 21, 22, 23, 24, 25, 26, 27, 28, 29, 30, 31, 32, 33, 34, 35, 36, 37, 38, 39, 40, 41, 42, 43, 44, 45, 47, 48], [0, 1, 2, 3, 4, 5, 6, 7, 8, 9, 10, 11, 12, 13, 14, 15, 16, 17, 18, 19, 20, 21, 22, 23, 24, 25, 26, 27, 28, 29, 30, 31, 32, 33, 34, 35, 36, 37, 38, 39, 40, 41, 42, 43, 44, 45], [0, 1, 2, 3, 4, 5, 6, 7, 8, 9, 10, 11, 12, 13, 14, 15, 16, 17, 18, 19, 20, 21, 22, 23, 24, 25, 26, 27, 28, 29, 30, 31, 32, 33, 34, 35, 36, 37, 38, 39, 40, 41, 42, 43, 44, 45, 50], [0, 1, 2, 3, 4, 5, 6, 7, 8, 9, 10, 11, 12, 13, 14, 15, 16, 17, 18, 19, 20, 21, 22, 23, 24, 25, 26, 27, 28, 29, 30, 31, 32, 33, 34, 35, 36, 37, 38, 39, 40, 41, 42, 43, 44, 45, 50, 51], [0, 1, 2, 3, 4, 5, 6, 7, 8, 9, 10, 11, 12, 13, 14, 15, 16, 17, 18, 19, 20, 21, 22, 23, 24, 25, 26, 27, 28, 29, 30, 31, 32, 33, 34, 35, 36, 37, 38, 39, 40, 41, 42, 43, 44, 45], [0, 1, 2, 3, 4, 5, 6, 7, 8, 9, 10, 11, 12, 13, 14, 15, 16, 17, 18, 19, 20, 21, 22, 23, 24, 25, 26, 27, 28, 29, 30, 31, 32, 33, 34, 35, 36, 37, 38, 39, 40, 41, 42, 43, 44, 45, 53], [0, 1, 2, 3, 4, 5, 6, 7, 8, 9, 10, 11, 12, 13, 14, 15, 16, 17, 18, 19, 20, 21, 22, 23, 24, 25, 26, 27, 28, 29, 30, 31, 32, 33, 34, 35, 36, 37, 38, 39, 40, 41, 42, 43, 44, 45, 53, 54], [0, 1, 2, 3, 4, 5, 6, 7, 8, 9, 10, 11, 12, 13, 14, 15, 16, 17, 18, 19, 20, 21, 22, 23, 24, 25, 26, 27, 28, 29, 30, 31, 32, 33, 34, 35, 36, 37, 38, 39, 40, 41, 42, 43, 44, 45, 47, 48, 49, 50, 51, 52, 53, 54, 55], [0, 1, 2, 3, 4, 5, 6, 7, 8, 9, 10, 11, 12, 13, 14, 15, 16, 17, 18, 19, 20, 21, 22, 23, 24, 25, 26, 27, 28, 29, 30, 31, 32, 33, 34, 35, 36, 37, 38, 39, 40, 41, 42, 43, 44, 45, 46, 47, 48, 49, 50, 51, 52, 53, 54, 55, 56], [0, 1, 2, 3, 4, 5, 6, 7, 8, 9, 10, 11, 12, 13, 14, 15, 16, 17, 18, 19, 20, 21, 22, 23, 24, 25, 26, 27, 28, 29, 30, 31, 32, 33, 34, 35, 36, 37, 38, 39, 40, 41, 42, 43, 44, 45, 46, 47, 48, 49, 50, 51, 52, 53, 54, 55, 56, 57], [0, 1, 2, 3, 4, 5, 6, 7, 8, 9, 10, 11, 12, 13, 14, 15, 16, 17, 18, 19, 20, 21, 22, 23, 24, 25, 26, 27, 28, 29, 30, 31, 32, 33, 34, 35, 36, 37, 38, 39, 40, 41, 42, 43, 44, 45, 46, 47, 48, 49, 50, 51, 52, 53, 54, 55, 56, 57, 58]] 60 (by kernel_rfl) (by kernel_rfl) (by kernel_rfl) (fun w => Chg.refl _ w) (fun _ _ _ h1 h2 => h1.trans h2) (stabL ⟨fun _ _ _ _ h => h, fun _ _ _ _ h => h, fun _ _ _ _ h => h, fun _ _ _ _ h => h, fun _ _ _ _ h => h, fun _ _ _ _ h => h, fun _ _ _ _ h => h, fun _ _ _ _ h => h, fun _ _ _ _ h => h, fun _ _ _ _ h => h, fun _ _ _ _ h => h, fun _ _ _ _ h => h, fun _ _ _ _ h => h, fun _ _ _ _ h => h, fun _ _ _ _ h => h, fun _ _ _ _ h => h, fun _ _ _ _ h => h, fun _ _ _ _ h => h, fun _ _ _ _ h => h, fun _ _ _ _ h => h, fun _ _ _ _ h => h, fun _ _ _ _ h => h, fun _ _ _ _ h => h, fun _ _ _ _ h => h, fun _ _ _ _ h => h, fun _ _ _ _ h => h, fun _ _ _ _ h => h, fun _ _ _ _ h => h, fun _ _ _ _ h => h, fun _ _ _ _ h => h, fun _ _ _ _ h => h, fun _ _ _ _ h => h, fun _ _ _ _ h => h, fun _ _ _ _ h => h, fun _ _ _ _ h => h, fun _ _ _ _ h => h, fun _ _ _ _ h => h, fun _ _ _ _ h => h, fun _ _ _ _ h => h, fun _ _ _ _ h => h, fun _ _ _ _ h => h, fun _ _ _ _ h => h, fun _ _ _ _ h => h, fun _ _ _ _ h => h, fun _ _ _ _ h => h, fun _ _ _ _ h => h, fun _ _ _ _ h => h, fun _ _ _ _ h => h, fun _ _ _ _ h => h, fun _ _ _ _ h => h, fun _ _ _ _ h => h, fun _ _ _ _ h => h, fun _ _ _ _ h => h, fun _ _ _ _ h => h, fun _ _ _ _ h => h, fun _ _ _ _ h => h, fun _ _ _ hx h hb => (h hb).ext hx, fun _ _ _ _ h => h, fun _ _ _ _ h => h, fun _ _ _ _ h => h, trivial⟩) ?_
  intro w15 qh1 qh2 qh3 qh4
  have hx52 := ext_same qh1 qh2 qh3 qh4
  refine ⟨⟨?_, ?_, ?_, ?_, ?_, ?_, ?_, ?_, ?_, ?_, ?_, ?_, ?_, ?_, ?_, ?_, ?_, ?_, ?_, ?_, ?_, ?_, ?_, ?_, ?_, ?_, ?_, ?_, ?_, ?_, ?_, ?_, ?_, ?_, ?_, ?_, ?_, ?_, ?_, ?_, ?_, ?_, ?_, ?_, ?_, ?_, ?_, ?_, ?_, ?_, ?_, ?_, ?_, ?_, ?_, ?_, ?_, ?_, ?_, ?_, trivial⟩, ?_⟩
  · intro vals w16 hR53 hA
    have hs54 := hR53.size
    refine obl rfl ?_
    exact ov_move (v := v3) rfl ⟨Chg.refl _ _, rfl⟩
  · intro vals w17 hR55 hA
    have hs56 := hR55.size
    have e0 : (vals 0) = (v3 : Value) := hA 0 (by decide)
    refine obl rfl ?_
    have hi57 : 0 < ev3.length := by decide
    exact ov_indexAddrN (k := 10) (i := 0) Try.underlying22 Try.sizeOf29 (show _ = (v3 : Value) from e0) hr2.sl rfl hi57 ⟨Chg.refl _ _, rfl⟩
  · intro vals w18 hR58 hA
    have hs59 := hR58.size
    have e1 : (vals 1) = (.pointer (some ⟨sb v3, so v3 + 0 * 10, none⟩) : Value) := hA 1 (by decide)
    refine obl rfl ?_
    have h60 := hc47.mono (fun hb => (Chg.trans (Chg.trans (Chg.trans (Chg.trans (Chg.trans hx4 hR35) hn38.ext) hx49) hx52) hR58).block _ hb (fun h => h))
    exact ov_loadk (k := 10) Try.isAgg29 Try.sizeOf29 rfl (show _ = (.pointer (some ⟨sb v3, so v3 + 0 * 10, none⟩) : Value) from e1) h60 ⟨Chg.refl _ _, rfl⟩
  · intro vals w19 hR61 hA
    have hs62 := hR61.size
    refine obl rfl ?_
    exact ov_move (v := v3) rfl ⟨Chg.refl _ _, rfl⟩
  · intro vals w20 hR63 hA
    have hs64 := hR63.size
    have e3 : (vals 3) = (v3 : Value) := hA 3 (by decide)
    refine obl rfl ?_
    have hi65 : 1 < ev3.length := by decide
    exact ov_indexAddrN (k := 10) (i := 1) Try.underlying22 Try.sizeOf29 (show _ = (v3 : Value) from e3) hr2.sl rfl hi65 ⟨Chg.refl _ _, rfl⟩
  · intro vals w21 hR66 hA
    have hs67 := hR66.size
    have e4 : (vals 4) = (.pointer (some ⟨sb v3, so v3 + 1 * 10, none⟩) : Value) := hA 4 (by decide)
    refine obl rfl ?_
    have h68 := hc43.mono (fun hb => (Chg.trans (Chg.trans (Chg.trans (Chg.trans (Chg.trans hx4 hR35) hn38.ext) hx49) hx52) hR66).block _ hb (fun h => h))
    exact ov_loadk (k := 10) Try.isAgg29 Try.sizeOf29 rfl (show _ = (.pointer (some ⟨sb v3, so v3 + 1 * 10, none⟩) : Value) from e4) h68 ⟨Chg.refl _ _, rfl⟩
  · intro vals w22 hR69 hA
    have hs70 := hR69.size
    have e2 : (vals 2) = (.agg ((ev3.getD 0 default).cells (cellV w1 (sb v3) (so v3 + 0 * 10 + 3))).toArray : Value) := hA 2 (by decide)
    have e5 : (vals 5) = (.agg ((ev3.getD 1 default).cells (cellV w1 (sb v3) (so v3 + 1 * 10 + 3))).toArray : Value) := hA 5 (by decide)
    refine obl rfl ?_
    have h71 := h48.ext (Chg.trans (Chg.trans hx49 hx52) hR69)
    have h72 := h44.ext (Chg.trans (Chg.trans hx49 hx52) hR69)
    exact ov_call (f := 11) (vals := [.agg ((ev3.getD 0 default).cells (cellV w1 (sb v3) (so v3 + 0 * 10 + 3))).toArray, .agg ((ev3.getD 1 default).cells (cellV w1 (sb v3) (so v3 + 1 * 10 + 3))).toArray]) (cap := []) (show _ = (.func (.func 11) #[] #[] : Value) from rfl) (mapL ⟨(show _ = (.agg ((ev3.getD 0 default).cells (cellV w1 (sb v3) (so v3 + 0 * 10 + 3))).toArray : Value) from e2), (show _ = (.agg ((ev3.getD 1 default).cells (cellV w1 (sb v3) (so v3 + 1 * 10 + 3))).toArray : Value) from e5), trivial⟩) Try.call11 (C_Before h71 hok47 h72 hok43) (fun _ _ h => ⟨h.2, h.1⟩)
  · intro vals w23 hR73 hA
    have hs74 := hR73.size
    have e6 : (vals 6) = (.bool (before (ev3.getD 0 default) (ev3.getD 1 default)) : Value) := hA 6 (by decide)
    refine obl rfl ?_
    exact ov_move (v := .bool (before (ev3.getD 0 default) (ev3.getD 1 default))) (show _ = (.bool (before (ev3.getD 0 default) (ev3.getD 1 default)) : Value) from e6) ⟨Chg.refl _ _, rfl⟩
  · intro vals w24 hR75 hA
    have hs76 := hR75.size
    have e7 : (vals 7) = (.bool (before (ev3.getD 0 default) (ev3.getD 1 default)) : Value) := hA 7 (by decide)
    refine oblc rfl rfl (show _ = (.bool (before (ev3.getD 0 default) (ev3.getD 1 default)) : Value) from e7) (fun hb77 => ?_) (fun hb77 => (if_neg hb77).symm)
    have hl78 : (before (ev3.getD 0 default) (ev3.getD 1 default)) = true := hb77
    exact ov_move (v := v3) rfl ⟨Chg.refl _ _, (if_pos hb77).symm⟩
  · intro vals w25 hR79 hA
    have hs80 := hR79.size
    have e7 : (vals 7) = (.bool (before (ev3.getD 0 default) (ev3.getD 1 default)) : Value) := hA 7 (by decide)
    have e8 : (vals 8) = (if (before (ev3.getD 0 default) (ev3.getD 1 default)) = true then (v3 : Value) else undef) := hA 8 (by decide)
    refine oblc rfl rfl (show _ = (.bool (before (ev3.getD 0 default) (ev3.getD 1 default)) : Value) from e7) (fun hb81 => ?_) (fun hb81 => (if_neg hb81).symm)
    have hl82 : (before (ev3.getD 0 default) (ev3.getD 1 default)) = true := hb81
    have hi83 : 1 < ev3.length := by decide
    exact ov_indexAddrN (k := 10) (i := 1) Try.underlying22 Try.sizeOf29 (show _ = (v3 : Value) from (Eq.trans e8 (if_pos hb81))) hr2.sl rfl hi83 ⟨Chg.refl _ _, (if_pos hb81).symm⟩
  · intro vals w26 hR84 hA
    have hs85 := hR84.size
    have e7 : (vals 7) = (.bool (before (ev3.getD 0 default) (ev3.getD 1 default)) : Value) := hA 7 (by decide)
    have e9 : (vals 9) = (if (before (ev3.getD 0 default) (ev3.getD 1 default)) = true then (.pointer (some ⟨sb v3, so v3 + 1 * 10, none⟩) : Value) else undef) := hA 9 (by decide)
    refine oblc rfl rfl (show _ = (.bool (before (ev3.getD 0 default) (ev3.getD 1 default)) : Value) from e7) (fun hb86 => ?_) (fun hb86 => (if_neg hb86).symm)
    have hl87 : (before (ev3.getD 0 default) (ev3.getD 1 default)) = true := hb86
    have h88 := hc43.mono (fun hb => (Chg.trans (Chg.trans (Chg.trans (Chg.trans (Chg.trans hx4 hR35) hn38.ext) hx49) hx52) hR84).block _ hb (fun h => h))
    exact ov_loadk (k := 10) Try.isAgg29 Try.sizeOf29 rfl (show _ = (.pointer (some ⟨sb v3, so v3 + 1 * 10, none⟩) : Value) from (Eq.trans e9 (if_pos hb86))) h88 ⟨Chg.refl _ _, (if_pos hb86).symm⟩
  · intro vals w27 hR89 hA
    have hs90 := hR89.size
    have e7 : (vals 7) = (.bool (before (ev3.getD 0 default) (ev3.getD 1 default)) : Value) := hA 7 (by decide)
    refine oblc rfl rfl (show _ = (.bool (before (ev3.getD 0 default) (ev3.getD 1 default)) : Value) from e7) (fun hb91 => ?_) (fun hb91 => (if_neg hb91).symm)
    have hl92 : (before (ev3.getD 0 default) (ev3.getD 1 default)) = true := hb91
    exact ov_move (v := v3) rfl ⟨Chg.refl _ _, (if_pos hb91).symm⟩
  · intro vals w28 hR93 hA
    have hs94 := hR93.size
    have e7 : (vals 7) = (.bool (before (ev3.getD 0 default) (ev3.getD 1 default)) : Value) := hA 7 (by decide)
    have e11 : (vals 11) = (if (before (ev3.getD 0 default) (ev3.getD 1 default)) = true then (v3 : Value) else undef) := hA 11 (by decide)
    refine oblc rfl rfl (show _ = (.bool (before (ev3.getD 0 default) (ev3.getD 1 default)) : Value) from e7) (fun hb95 => ?_) (fun hb95 => (if_neg hb95).symm)
    have hl96 : (before (ev3.getD 0 default) (ev3.getD 1 default)) = true := hb95
    have hi97 : 0 < ev3.length := by decide
    exact ov_indexAddrN (k := 10) (i := 0) Try.underlying22 Try.sizeOf29 (show _ = (v3 : Value) from (Eq.trans e11 (if_pos hb95))) hr2.sl rfl hi97 ⟨Chg.refl _ _, (if_pos hb95).symm⟩
  · intro vals w29 hR98 hA
    have hs99 := hR98.size
    have e7 : (vals 7) = (.bool (before (ev3.getD 0 default) (ev3.getD 1 default)) : Value) := hA 7 (by decide)
    have e12 : (vals 12) = (if (before (ev3.getD 0 default) (ev3.getD 1 default)) = true then (.pointer (some ⟨sb v3, so v3 + 0 * 10, none⟩) : Value) else undef) := hA 12 (by decide)
    refine oblc rfl rfl (show _ = (.bool (before (ev3.getD 0 default) (ev3.getD 1 default)) : Value) from e7) (fun hb100 => ?_) (fun hb100 => (if_neg hb100).symm)
    have hl101 : (before (ev3.getD 0 default) (ev3.getD 1 default)) = true := hb100
    have h102 := hc47.mono (fun hb => (Chg.trans (Chg.trans (Chg.trans (Chg.trans (Chg.trans hx4 hR35) hn38.ext) hx49) hx52) hR98).block _ hb (fun h => h))
    exact ov_loadk (k := 10) Try.isAgg29 Try.sizeOf29 rfl (show _ = (.pointer (some ⟨sb v3, so v3 + 0 * 10, none⟩) : Value) from (Eq.trans e12 (if_pos hb100))) h102 ⟨Chg.refl _ _, (if_pos hb100).symm⟩
  · intro vals w30 hR103 hA
    have hs104 := hR103.size
    have e7 : (vals 7) = (.bool (before (ev3.getD 0 default) (ev3.getD 1 default)) : Value) := hA 7 (by decide)
    have e10 : (vals 10) = (if (before (ev3.getD 0 default) (ev3.getD 1 default)) = true then (.agg ((ev3.getD 1 default).cells (cellV w1 (sb v3) (so v3 + 1 * 10 + 3))).toArray : Value) else undef) := hA 10 (by decide)
    have e13 : (vals 13) = (if (before (ev3.getD 0 default) (ev3.getD 1 default)) = true then (.agg ((ev3.getD 0 default).cells (cellV w1 (sb v3) (so v3 + 0 * 10 + 3))).toArray : Value) else undef) := hA 13 (by decide)
    refine oblc rfl rfl (show _ = (.bool (before (ev3.getD 0 default) (ev3.getD 1 default)) : Value) from e7) (fun hb105 => ?_) (fun hb105 => (if_neg hb105).symm)
    have hl106 : (before (ev3.getD 0 default) (ev3.getD 1 default)) = true := hb105
    have h107 := h44.ext (Chg.trans (Chg.trans hx49 hx52) hR103)
    have h108 := h48.ext (Chg.trans (Chg.trans hx49 hx52) hR103)
    exact ov_call (f := 11) (vals := [.agg ((ev3.getD 1 default).cells (cellV w1 (sb v3) (so v3 + 1 * 10 + 3))).toArray, .agg ((ev3.getD 0 default).cells (cellV w1 (sb v3) (so v3 + 0 * 10 + 3))).toArray]) (cap := []) (show _ = (.func (.func 11) #[] #[] : Value) from rfl) (mapL ⟨(show _ = (.agg ((ev3.getD 1 default).cells (cellV w1 (sb v3) (so v3 + 1 * 10 + 3))).toArray : Value) from (Eq.trans e10 (if_pos hb105))), (show _ = (.agg ((ev3.getD 0 default).cells (cellV w1 (sb v3) (so v3 + 0 * 10 + 3))).toArray : Value) from (Eq.trans e13 (if_pos hb105))), trivial⟩) Try.call11 (C_Before h107 hok43 h108 hok47) (fun _ _ h => ⟨h.2, h.1.trans (if_pos hb105).symm⟩)
  · intro vals w31 hR109 hA
    have hs110 := hR109.size
    have e7 : (vals 7) = (.bool (before (ev3.getD 0 default) (ev3.getD 1 default)) : Value) := hA 7 (by decide)
    have e14 : (vals 14) = (if (before (ev3.getD 0 default) (ev3.getD 1 default)) = true then (.bool (before (ev3.getD 1 default) (ev3.getD 0 default)) : Value) else undef) := hA 14 (by decide)
    refine oblc rfl rfl (show _ = (.bool (before (ev3.getD 0 default) (ev3.getD 1 default)) : Value) from e7) (fun hb111 => ?_) (fun hb111 => (if_neg hb111).symm)
    have hl112 : (before (ev3.getD 0 default) (ev3.getD 1 default)) = true := hb111
    exact ov_not (a := before (ev3.getD 1 default) (ev3.getD 0 default)) (show _ = (.bool (before (ev3.getD 1 default) (ev3.getD 0 default)) : Value) from (Eq.trans e14 (if_pos hb111))) ⟨Chg.refl _ _, (if_pos hb111).symm⟩
  · intro vals w32 hR113 hA
    have hs114 := hR113.size
    have e7 : (vals 7) = (.bool (before (ev3.getD 0 default) (ev3.getD 1 default)) : Value) := hA 7 (by decide)
    have e15 : (vals 15) = (if (before (ev3.getD 0 default) (ev3.getD 1 default)) = true then (.bool (!(before (ev3.getD 1 default) (ev3.getD 0 default))) : Value) else undef) := hA 15 (by decide)
    refine obl rfl ?_
    exact ov_pick_and (b := before (ev3.getD 0 default) (ev3.getD 1 default)) (b' := !(before (ev3.getD 1 default) (ev3.getD 0 default))) (show _ = (.bool (before (ev3.getD 0 default) (ev3.getD 1 default)) : Value) from e7) (fun hbp => (show _ = (.bool (!(before (ev3.getD 1 default) (ev3.getD 0 default))) : Value) from (Eq.trans e15 (if_pos hbp)))) ⟨Chg.refl _ _, rfl⟩
  · intro vals w33 hR115 hA
    have hs116 := hR115.size
    have e16 : (vals 16) = (.bool ((before (ev3.getD 0 default) (ev3.getD 1 default)) && (!(before (ev3.getD 1 default) (ev3.getD 0 default)))) : Value) := hA 16 (by decide)
    refine obl rfl ?_
    exact ov_move (v := .bool ((before (ev3.getD 0 default) (ev3.getD 1 default)) && (!(before (ev3.getD 1 default) (ev3.getD 0 default))))) (show _ = (.bool ((before (ev3.getD 0 default) (ev3.getD 1 default)) && (!(before (ev3.getD 1 default) (ev3.getD 0 default)))) : Value) from e16) ⟨Chg.refl _ _, rfl⟩
  · intro vals w34 hR117 hA
    have hs118 := hR117.size
    have e17 : (vals 17) = (.bool ((before (ev3.getD 0 default) (ev3.getD 1 default)) && (!(before (ev3.getD 1 default) (ev3.getD 0 default)))) : Value) := hA 17 (by decide)
    refine oblc rfl rfl (show _ = (.bool ((before (ev3.getD 0 default) (ev3.getD 1 default)) && (!(before (ev3.getD 1 default) (ev3.getD 0 default)))) : Value) from e17) (fun hb119 => ?_) (fun hb119 => (if_neg hb119).symm)
    have hl120 : ((before (ev3.getD 0 default) (ev3.getD 1 default)) && (!(before (ev3.getD 1 default) (ev3.getD 0 default)))) = true := hb119
    simp only [Bool.and_eq_true, Bool.or_eq_true, Bool.and_eq_false_iff, Bool.or_eq_false_iff, decide_eq_true_eq, decide_eq_false_iff_not, Bool.not_eq_true', Bool.not_eq_false', Int.not_lt, Int.not_le] at hl120
    exact ov_move (v := v3) rfl ⟨Chg.refl _ _, (if_pos hb119).symm⟩
  · intro vals w35 hR121 hA
    have hs122 := hR121.size
    have e17 : (vals 17) = (.bool ((before (ev3.getD 0 default) (ev3.getD 1 default)) && (!(before (ev3.getD 1 default) (ev3.getD 0 default)))) : Value) := hA 17 (by decide)
    have e18 : (vals 18) = (if ((before (ev3.getD 0 default) (ev3.getD 1 default)) && (!(before (ev3.getD 1 default) (ev3.getD 0 default)))) = true then (v3 : Value) else undef) := hA 18 (by decide)
    refine oblc rfl rfl (show _ = (.bool ((before (ev3.getD 0 default) (ev3.getD 1 default)) && (!(before (ev3.getD 1 default) (ev3.getD 0 default)))) : Value) from e17) (fun hb123 => ?_) (fun hb123 => (if_neg hb123).symm)
    have hl124 : ((before (ev3.getD 0 default) (ev3.getD 1 default)) && (!(before (ev3.getD 1 default) (ev3.getD 0 default)))) = true := hb123
    simp only [Bool.and_eq_true, Bool.or_eq_true, Bool.and_eq_false_iff, Bool.or_eq_false_iff, decide_eq_true_eq, decide_eq_false_iff_not, Bool.not_eq_true', Bool.not_eq_false', Int.not_lt, Int.not_le] at hl124
    have hi125 : 0 < ev3.length := by decide
    exact ov_indexAddrN (k := 10) (i := 0) Try.underlying22 Try.sizeOf29 (show _ = (v3 : Value) from (Eq.trans e18 (if_pos hb123))) hr2.sl rfl hi125 ⟨Chg.refl _ _, (if_pos hb123).symm⟩
  · intro vals w36 hR126 hA
    have hs127 := hR126.size
    have e17 : (vals 17) = (.bool ((before (ev3.getD 0 default) (ev3.getD 1 default)) && (!(before (ev3.getD 1 default) (ev3.getD 0 default)))) : Value) := hA 17 (by decide)
    have e19 : (vals 19) = (if ((before (ev3.getD 0 default) (ev3.getD 1 default)) && (!(before (ev3.getD 1 default) (ev3.getD 0 default)))) = true then (.pointer (some ⟨sb v3, so v3 + 0 * 10, none⟩) : Value) else undef) := hA 19 (by decide)
    refine oblc rfl rfl (show _ = (.bool ((before (ev3.getD 0 default) (ev3.getD 1 default)) && (!(before (ev3.getD 1 default) (ev3.getD 0 default)))) : Value) from e17) (fun hb128 => ?_) (fun hb128 => (if_neg hb128).symm)
    have hl129 : ((before (ev3.getD 0 default) (ev3.getD 1 default)) && (!(before (ev3.getD 1 default) (ev3.getD 0 default)))) = true := hb128
    simp only [Bool.and_eq_true, Bool.or_eq_true, Bool.and_eq_false_iff, Bool.or_eq_false_iff, decide_eq_true_eq, decide_eq_false_iff_not, Bool.not_eq_true', Bool.not_eq_false', Int.not_lt, Int.not_le] at hl129
    have h130 := hc47.mono (fun hb => (Chg.trans (Chg.trans (Chg.trans (Chg.trans (Chg.trans hx4 hR35) hn38.ext) hx49) hx52) hR126).block _ hb (fun h => h))
    exact ov_loadk (k := 10) Try.isAgg29 Try.sizeOf29 rfl (show _ = (.pointer (some ⟨sb v3, so v3 + 0 * 10, none⟩) : Value) from (Eq.trans e19 (if_pos hb128))) h130 ⟨Chg.refl _ _, (if_pos hb128).symm⟩
  · intro vals w37 hR131 hA
    have hs132 := hR131.size
    have e17 : (vals 17) = (.bool ((before (ev3.getD 0 default) (ev3.getD 1 default)) && (!(before (ev3.getD 1 default) (ev3.getD 0 default)))) : Value) := hA 17 (by decide)
    refine oblc rfl rfl (show _ = (.bool ((before (ev3.getD 0 default) (ev3.getD 1 default)) && (!(before (ev3.getD 1 default) (ev3.getD 0 default)))) : Value) from e17) (fun hb133 => ?_) (fun hb133 => (if_neg hb133).symm)
    have hl134 : ((before (ev3.getD 0 default) (ev3.getD 1 default)) && (!(before (ev3.getD 1 default) (ev3.getD 0 default)))) = true := hb133
    simp only [Bool.and_eq_true, Bool.or_eq_true, Bool.and_eq_false_iff, Bool.or_eq_false_iff, decide_eq_true_eq, decide_eq_false_iff_not, Bool.not_eq_true', Bool.not_eq_false', Int.not_lt, Int.not_le] at hl134
    exact ov_move (v := v3) rfl ⟨Chg.refl _ _, (if_pos hb133).symm⟩
  · intro vals w38 hR135 hA
    have hs136 := hR135.size
    have e17 : (vals 17) = (.bool ((before (ev3.getD 0 default) (ev3.getD 1 default)) && (!(before (ev3.getD 1 default) (ev3.getD 0 default)))) : Value) := hA 17 (by decide)
    have e21 : (vals 21) = (if ((before (ev3.getD 0 default) (ev3.getD 1 default)) && (!(before (ev3.getD 1 default) (ev3.getD 0 default)))) = true then (v3 : Value) else undef) := hA 21 (by decide)
    refine oblc rfl rfl (show _ = (.bool ((before (ev3.getD 0 default) (ev3.getD 1 default)) && (!(before (ev3.getD 1 default) (ev3.getD 0 default)))) : Value) from e17) (fun hb137 => ?_) (fun hb137 => (if_neg hb137).symm)
    have hl138 : ((before (ev3.getD 0 default) (ev3.getD 1 default)) && (!(before (ev3.getD 1 default) (ev3.getD 0 default)))) = true := hb137
    simp only [Bool.and_eq_true, Bool.or_eq_true, Bool.and_eq_false_iff, Bool.or_eq_false_iff, decide_eq_true_eq, decide_eq_false_iff_not, Bool.not_eq_true', Bool.not_eq_false', Int.not_lt, Int.not_le] at hl138
    have hi139 : 2 < ev3.length := by decide
    exact ov_indexAddrN (k := 10) (i := 2) Try.underlying22 Try.sizeOf29 (show _ = (v3 : Value) from (Eq.trans e21 (if_pos hb137))) hr2.sl rfl hi139 ⟨Chg.refl _ _, (if_pos hb137).symm⟩
  · intro vals w39 hR140 hA
    have hs141 := hR140.size
    have e17 : (vals 17) = (.bool ((before (ev3.getD 0 default) (ev3.getD 1 default)) && (!(before (ev3.getD 1 default) (ev3.getD 0 default)))) : Value) := hA 17 (by decide)
    have e22 : (vals 22) = (if ((before (ev3.getD 0 default) (ev3.getD 1 default)) && (!(before (ev3.getD 1 default) (ev3.getD 0 default)))) = true then (.pointer (some ⟨sb v3, so v3 + 2 * 10, none⟩) : Value) else undef) := hA 22 (by decide)
    refine oblc rfl rfl (show _ = (.bool ((before (ev3.getD 0 default) (ev3.getD 1 default)) && (!(before (ev3.getD 1 default) (ev3.getD 0 default)))) : Value) from e17) (fun hb142 => ?_) (fun hb142 => (if_neg hb142).symm)
    have hl143 : ((before (ev3.getD 0 default) (ev3.getD 1 default)) && (!(before (ev3.getD 1 default) (ev3.getD 0 default)))) = true := hb142
    simp only [Bool.and_eq_true, Bool.or_eq_true, Bool.and_eq_false_iff, Bool.or_eq_false_iff, decide_eq_true_eq, decide_eq_false_iff_not, Bool.not_eq_true', Bool.not_eq_false', Int.not_lt, Int.not_le] at hl143
    have h144 := hc45.mono (fun hb => (Chg.trans (Chg.trans (Chg.trans (Chg.trans (Chg.trans hx4 hR35) hn38.ext) hx49) hx52) hR140).block _ hb (fun h => h))
    exact ov_loadk (k := 10) Try.isAgg29 Try.sizeOf29 rfl (show _ = (.pointer (some ⟨sb v3, so v3 + 2 * 10, none⟩) : Value) from (Eq.trans e22 (if_pos hb142))) h144 ⟨Chg.refl _ _, (if_pos hb142).symm⟩
  · intro vals w40 hR145 hA
    have hs146 := hR145.size
    have e17 : (vals 17) = (.bool ((before (ev3.getD 0 default) (ev3.getD 1 default)) && (!(before (ev3.getD 1 default) (ev3.getD 0 default)))) : Value) := hA 17 (by decide)
    have e20 : (vals 20) = (if ((before (ev3.getD 0 default) (ev3.getD 1 default)) && (!(before (ev3.getD 1 default) (ev3.getD 0 default)))) = true then (.agg ((ev3.getD 0 default).cells (cellV w1 (sb v3) (so v3 + 0 * 10 + 3))).toArray : Value) else undef) := hA 20 (by decide)
    have e23 : (vals 23) = (if ((before (ev3.getD 0 default) (ev3.getD 1 default)) && (!(before (ev3.getD 1 default) (ev3.getD 0 default)))) = true then (.agg ((ev3.getD 2 default).cells (cellV w1 (sb v3) (so v3 + 2 * 10 + 3))).toArray : Value) else undef) := hA 23 (by decide)
    refine oblc rfl rfl (show _ = (.bool ((before (ev3.getD 0 default) (ev3.getD 1 default)) && (!(before (ev3.getD 1 default) (ev3.getD 0 default)))) : Value) from e17) (fun hb147 => ?_) (fun hb147 => (if_neg hb147).symm)
    have hl148 : ((before (ev3.getD 0 default) (ev3.getD 1 default)) && (!(before (ev3.getD 1 default) (ev3.getD 0 default)))) = true := hb147
    simp only [Bool.and_eq_true, Bool.or_eq_true, Bool.and_eq_false_iff, Bool.or_eq_false_iff, decide_eq_true_eq, decide_eq_false_iff_not, Bool.not_eq_true', Bool.not_eq_false', Int.not_lt, Int.not_le] at hl148
    have h149 := h48.ext (Chg.trans (Chg.trans hx49 hx52) hR145)
    have h150 := h46.ext (Chg.trans (Chg.trans hx49 hx52) hR145)
    exact ov_call (f := 13) (vals := [.agg ((ev3.getD 0 default).cells (cellV w1 (sb v3) (so v3 + 0 * 10 + 3))).toArray, .agg ((ev3.getD 2 default).cells (cellV w1 (sb v3) (so v3 + 2 * 10 + 3))).toArray]) (cap := []) (show _ = (.func (.func 13) #[] #[] : Value) from rfl) (mapL ⟨(show _ = (.agg ((ev3.getD 0 default).cells (cellV w1 (sb v3) (so v3 + 0 * 10 + 3))).toArray : Value) from (Eq.trans e20 (if_pos hb147))), (show _ = (.agg ((ev3.getD 2 default).cells (cellV w1 (sb v3) (so v3 + 2 * 10 + 3))).toArray : Value) from (Eq.trans e23 (if_pos hb147))), trivial⟩) Try.call13 (C_Apart h149 hok47 h150 hok45) (fun _ _ h => ⟨h.2, h.1.trans (if_pos hb147).symm⟩)
  · intro vals w41 hR151 hA
    have hs152 := hR151.size
    have e17 : (vals 17) = (.bool ((before (ev3.getD 0 default) (ev3.getD 1 default)) && (!(before (ev3.getD 1 default) (ev3.getD 0 default)))) : Value) := hA 17 (by decide)
    have e24 : (vals 24) = (if ((before (ev3.getD 0 default) (ev3.getD 1 default)) && (!(before (ev3.getD 1 default) (ev3.getD 0 default)))) = true then (.bool (apart (ev3.getD 0 default) (ev3.getD 2 default)) : Value) else undef) := hA 24 (by decide)
    refine obl rfl ?_
    exact ov_pick_and (b := (before (ev3.getD 0 default) (ev3.getD 1 default)) && (!(before (ev3.getD 1 default) (ev3.getD 0 default)))) (b' := apart (ev3.getD 0 default) (ev3.getD 2 default)) (show _ = (.bool ((before (ev3.getD 0 default) (ev3.getD 1 default)) && (!(before (ev3.getD 1 default) (ev3.getD 0 default)))) : Value) from e17) (fun hbp => (show _ = (.bool (apart (ev3.getD 0 default) (ev3.getD 2 default)) : Value) from (Eq.trans e24 (if_pos hbp)))) ⟨Chg.refl _ _, rfl⟩
  · intro vals w42 hR153 hA
    have hs154 := hR153.size
    have e25 : (vals 25) = (.bool (((before (ev3.getD 0 default) (ev3.getD 1 default)) && (!(before (ev3.getD 1 default) (ev3.getD 0 default)))) && (apart (ev3.getD 0 default) (ev3.getD 2 default))) : Value) := hA 25 (by decide)
    refine obl rfl ?_
    exact ov_move (v := .bool (((before (ev3.getD 0 default) (ev3.getD 1 default)) && (!(before (ev3.getD 1 default) (ev3.getD 0 default)))) && (apart (ev3.getD 0 default) (ev3.getD 2 default)))) (show _ = (.bool (((before (ev3.getD 0 default) (ev3.getD 1 default)) && (!(before (ev3.getD 1 default) (ev3.getD 0 default)))) && (apart (ev3.getD 0 default) (ev3.getD 2 default))) : Value) from e25) ⟨Chg.refl _ _, rfl⟩
  · intro vals w43 hR155 hA
    have hs156 := hR155.size
    have e26 : (vals 26) = (.bool (((before (ev3.getD 0 default) (ev3.getD 1 default)) && (!(before (ev3.getD 1 default) (ev3.getD 0 default)))) && (apart (ev3.getD 0 default) (ev3.getD 2 default))) : Value) := hA 26 (by decide)
    refine oblc rfl rfl (show _ = (.bool (((before (ev3.getD 0 default) (ev3.getD 1 default)) && (!(before (ev3.getD 1 default) (ev3.getD 0 default)))) && (apart (ev3.getD 0 default) (ev3.getD 2 default))) : Value) from e26) (fun hb157 => ?_) (fun hb157 => (if_neg hb157).symm)
    have hl158 : (((before (ev3.getD 0 default) (ev3.getD 1 default)) && (!(before (ev3.getD 1 default) (ev3.getD 0 default)))) && (apart (ev3.getD 0 default) (ev3.getD 2 default))) = true := hb157
    simp only [Bool.and_eq_true, Bool.or_eq_true, Bool.and_eq_false_iff, Bool.or_eq_false_iff, decide_eq_true_eq, decide_eq_false_iff_not, Bool.not_eq_true', Bool.not_eq_false', Int.not_lt, Int.not_le] at hl158
    exact ov_move (v := v3) rfl ⟨Chg.refl _ _, (if_pos hb157).symm⟩
  · intro vals w44 hR159 hA
    have hs160 := hR159.size
    have e26 : (vals 26) = (.bool (((before (ev3.getD 0 default) (ev3.getD 1 default)) && (!(before (ev3.getD 1 default) (ev3.getD 0 default)))) && (apart (ev3.getD 0 default) (ev3.getD 2 default))) : Value) := hA 26 (by decide)
    have e27 : (vals 27) = (if (((before (ev3.getD 0 default) (ev3.getD 1 default)) && (!(before (ev3.getD 1 default) (ev3.getD 0 default)))) && (apart (ev3.getD 0 default) (ev3.getD 2 default))) = true then (v3 : Value) else undef) := hA 27 (by decide)
    refine oblc rfl rfl (show _ = (.bool (((before (ev3.getD 0 default) (ev3.getD 1 default)) && (!(before (ev3.getD 1 default) (ev3.getD 0 default)))) && (apart (ev3.getD 0 default) (ev3.getD 2 default))) : Value) from e26) (fun hb161 => ?_) (fun hb161 => (if_neg hb161).symm)
    have hl162 : (((before (ev3.getD 0 default) (ev3.getD 1 default)) && (!(before (ev3.getD 1 default) (ev3.getD 0 default)))) && (apart (ev3.getD 0 default) (ev3.getD 2 default))) = true := hb161
    simp only [Bool.and_eq_true, Bool.or_eq_true, Bool.and_eq_false_iff, Bool.or_eq_false_iff, decide_eq_true_eq, decide_eq_false_iff_not, Bool.not_eq_true', Bool.not_eq_false', Int.not_lt, Int.not_le] at hl162
    have hi163 : 0 < ev3.length := by decide
    exact ov_indexAddrN (k := 10) (i := 0) Try.underlying22 Try.sizeOf29 (show _ = (v3 : Value) from (Eq.trans e27 (if_pos hb161))) hr2.sl rfl hi163 ⟨Chg.refl _ _, (if_pos hb161).symm⟩
  · intro vals w45 hR164 hA
    have hs165 := hR164.size
    have e26 : (vals 26) = (.bool (((before (ev3.getD 0 default) (ev3.getD 1 default)) && (!(before (ev3.getD 1 default) (ev3.getD 0 default)))) && (apart (ev3.getD 0 default) (ev3.getD 2 default))) : Value) := hA 26 (by decide)
    have e28 : (vals 28) = (if (((before (ev3.getD 0 default) (ev3.getD 1 default)) && (!(before (ev3.getD 1 default) (ev3.getD 0 default)))) && (apart (ev3.getD 0 default) (ev3.getD 2 default))) = true then (.pointer (some ⟨sb v3, so v3 + 0 * 10, none⟩) : Value) else undef) := hA 28 (by decide)
    refine oblc rfl rfl (show _ = (.bool (((before (ev3.getD 0 default) (ev3.getD 1 default)) && (!(before (ev3.getD 1 default) (ev3.getD 0 default)))) && (apart (ev3.getD 0 default) (ev3.getD 2 default))) : Value) from e26) (fun hb166 => ?_) (fun hb166 => (if_neg hb166).symm)
    have hl167 : (((before (ev3.getD 0 default) (ev3.getD 1 default)) && (!(before (ev3.getD 1 default) (ev3.getD 0 default)))) && (apart (ev3.getD 0 default) (ev3.getD 2 default))) = true := hb166
    simp only [Bool.and_eq_true, Bool.or_eq_true, Bool.and_eq_false_iff, Bool.or_eq_false_iff, decide_eq_true_eq, decide_eq_false_iff_not, Bool.not_eq_true', Bool.not_eq_false', Int.not_lt, Int.not_le] at hl167
    have h168 := hc47.mono (fun hb => (Chg.trans (Chg.trans (Chg.trans (Chg.trans (Chg.trans hx4 hR35) hn38.ext) hx49) hx52) hR164).block _ hb (fun h => h))
    exact ov_loadk (k := 10) Try.isAgg29 Try.sizeOf29 rfl (show _ = (.pointer (some ⟨sb v3, so v3 + 0 * 10, none⟩) : Value) from (Eq.trans e28 (if_pos hb166))) h168 ⟨Chg.refl _ _, (if_pos hb166).symm⟩
  · intro vals w46 hR169 hA
    have hs170 := hR169.size
    have e26 : (vals 26) = (.bool (((before (ev3.getD 0 default) (ev3.getD 1 default)) && (!(before (ev3.getD 1 default) (ev3.getD 0 default)))) && (apart (ev3.getD 0 default) (ev3.getD 2 default))) : Value) := hA 26 (by decide)
    refine oblc rfl rfl (show _ = (.bool (((before (ev3.getD 0 default) (ev3.getD 1 default)) && (!(before (ev3.getD 1 default) (ev3.getD 0 default)))) && (apart (ev3.getD 0 default) (ev3.getD 2 default))) : Value) from e26) (fun hb171 => ?_) (fun hb171 => (if_neg hb171).symm)
    have hl172 : (((before (ev3.getD 0 default) (ev3.getD 1 default)) && (!(before (ev3.getD 1 default) (ev3.getD 0 default)))) && (apart (ev3.getD 0 default) (ev3.getD 2 default))) = true := hb171
    simp only [Bool.and_eq_true, Bool.or_eq_true, Bool.and_eq_false_iff, Bool.or_eq_false_iff, decide_eq_true_eq, decide_eq_false_iff_not, Bool.not_eq_true', Bool.not_eq_false', Int.not_lt, Int.not_le] at hl172
    exact ov_move (v := v3) rfl ⟨Chg.refl _ _, (if_pos hb171).symm⟩
  · intro vals w47 hR173 hA
    have hs174 := hR173.size
    have e26 : (vals 26) = (.bool (((before (ev3.getD 0 default) (ev3.getD 1 default)) && (!(before (ev3.getD 1 default) (ev3.getD 0 default)))) && (apart (ev3.getD 0 default) (ev3.getD 2 default))) : Value) := hA 26 (by decide)
    have e30 : (vals 30) = (if (((before (ev3.getD 0 default) (ev3.getD 1 default)) && (!(before (ev3.getD 1 default) (ev3.getD 0 default)))) && (apart (ev3.getD 0 default) (ev3.getD 2 default))) = true then (v3 : Value) else undef) := hA 30 (by decide)
    refine oblc rfl rfl (show _ = (.bool (((before (ev3.getD 0 default) (ev3.getD 1 default)) && (!(before (ev3.getD 1 default) (ev3.getD 0 default)))) && (apart (ev3.getD 0 default) (ev3.getD 2 default))) : Value) from e26) (fun hb175 => ?_) (fun hb175 => (if_neg hb175).symm)
    have hl176 : (((before (ev3.getD 0 default) (ev3.getD 1 default)) && (!(before (ev3.getD 1 default) (ev3.getD 0 default)))) && (apart (ev3.getD 0 default) (ev3.getD 2 default))) = true := hb175
    simp only [Bool.and_eq_true, Bool.or_eq_true, Bool.and_eq_false_iff, Bool.or_eq_false_iff, decide_eq_true_eq, decide_eq_false_iff_not, Bool.not_eq_true', Bool.not_eq_false', Int.not_lt, Int.not_le] at hl176
    have hi177 : 0 < ev3.length := by decide
    exact ov_indexAddrN (k := 10) (i := 0) Try.underlying22 Try.sizeOf29 (show _ = (v3 : Value) from (Eq.trans e30 (if_pos hb175))) hr2.sl rfl hi177 ⟨Chg.refl _ _, (if_pos hb175).symm⟩
  · intro vals w48 hR178 hA
    have hs179 := hR178.size
    have e26 : (vals 26) = (.bool (((before (ev3.getD 0 default) (ev3.getD 1 default)) && (!(before (ev3.getD 1 default) (ev3.getD 0 default)))) && (apart (ev3.getD 0 default) (ev3.getD 2 default))) : Value) := hA 26 (by decide)
    have e31 : (vals 31) = (if (((before (ev3.getD 0 default) (ev3.getD 1 default)) && (!(before (ev3.getD 1 default) (ev3.getD 0 default)))) && (apart (ev3.getD 0 default) (ev3.getD 2 default))) = true then (.pointer (some ⟨sb v3, so v3 + 0 * 10, none⟩) : Value) else undef) := hA 31 (by decide)
    refine oblc rfl rfl (show _ = (.bool (((before (ev3.getD 0 default) (ev3.getD 1 default)) && (!(before (ev3.getD 1 default) (ev3.getD 0 default)))) && (apart (ev3.getD 0 default) (ev3.getD 2 default))) : Value) from e26) (fun hb180 => ?_) (fun hb180 => (if_neg hb180).symm)
    have hl181 : (((before (ev3.getD 0 default) (ev3.getD 1 default)) && (!(before (ev3.getD 1 default) (ev3.getD 0 default)))) && (apart (ev3.getD 0 default) (ev3.getD 2 default))) = true := hb180
    simp only [Bool.and_eq_true, Bool.or_eq_true, Bool.and_eq_false_iff, Bool.or_eq_false_iff, decide_eq_true_eq, decide_eq_false_iff_not, Bool.not_eq_true', Bool.not_eq_false', Int.not_lt, Int.not_le] at hl181
    have h182 := hc47.mono (fun hb => (Chg.trans (Chg.trans (Chg.trans (Chg.trans (Chg.trans hx4 hR35) hn38.ext) hx49) hx52) hR178).block _ hb (fun h => h))
    exact ov_loadk (k := 10) Try.isAgg29 Try.sizeOf29 rfl (show _ = (.pointer (some ⟨sb v3, so v3 + 0 * 10, none⟩) : Value) from (Eq.trans e31 (if_pos hb180))) h182 ⟨Chg.refl _ _, (if_pos hb180).symm⟩
  · intro vals w49 hR183 hA
    have hs184 := hR183.size
    have e26 : (vals 26) = (.bool (((before (ev3.getD 0 default) (ev3.getD 1 default)) && (!(before (ev3.getD 1 default) (ev3.getD 0 default)))) && (apart (ev3.getD 0 default) (ev3.getD 2 default))) : Value) := hA 26 (by decide)
    have e29 : (vals 29) = (if (((before (ev3.getD 0 default) (ev3.getD 1 default)) && (!(before (ev3.getD 1 default) (ev3.getD 0 default)))) && (apart (ev3.getD 0 default) (ev3.getD 2 default))) = true then (.agg ((ev3.getD 0 default).cells (cellV w1 (sb v3) (so v3 + 0 * 10 + 3))).toArray : Value) else undef) := hA 29 (by decide)
    have e32 : (vals 32) = (if (((before (ev3.getD 0 default) (ev3.getD 1 default)) && (!(before (ev3.getD 1 default) (ev3.getD 0 default)))) && (apart (ev3.getD 0 default) (ev3.getD 2 default))) = true then (.agg ((ev3.getD 0 default).cells (cellV w1 (sb v3) (so v3 + 0 * 10 + 3))).toArray : Value) else undef) := hA 32 (by decide)
    refine oblc rfl rfl (show _ = (.bool (((before (ev3.getD 0 default) (ev3.getD 1 default)) && (!(before (ev3.getD 1 default) (ev3.getD 0 default)))) && (apart (ev3.getD 0 default) (ev3.getD 2 default))) : Value) from e26) (fun hb185 => ?_) (fun hb185 => (if_neg hb185).symm)
    have hl186 : (((before (ev3.getD 0 default) (ev3.getD 1 default)) && (!(before (ev3.getD 1 default) (ev3.getD 0 default)))) && (apart (ev3.getD 0 default) (ev3.getD 2 default))) = true := hb185
    simp only [Bool.and_eq_true, Bool.or_eq_true, Bool.and_eq_false_iff, Bool.or_eq_false_iff, decide_eq_true_eq, decide_eq_false_iff_not, Bool.not_eq_true', Bool.not_eq_false', Int.not_lt, Int.not_le] at hl186
    have h187 := h48.ext (Chg.trans (Chg.trans hx49 hx52) hR183)
    exact ov_call (f := 13) (vals := [.agg ((ev3.getD 0 default).cells (cellV w1 (sb v3) (so v3 + 0 * 10 + 3))).toArray, .agg ((ev3.getD 0 default).cells (cellV w1 (sb v3) (so v3 + 0 * 10 + 3))).toArray]) (cap := []) (show _ = (.func (.func 13) #[] #[] : Value) from rfl) (mapL ⟨(show _ = (.agg ((ev3.getD 0 default).cells (cellV w1 (sb v3) (so v3 + 0 * 10 + 3))).toArray : Value) from (Eq.trans e29 (if_pos hb185))), (show _ = (.agg ((ev3.getD 0 default).cells (cellV w1 (sb v3) (so v3 + 0 * 10 + 3))).toArray : Value) from (Eq.trans e32 (if_pos hb185))), trivial⟩) Try.call13 (C_Apart h187 hok47 h187 hok47) (fun _ _ h => ⟨h.2, h.1.trans (if_pos hb185).symm⟩)
  · intro vals w50 hR188 hA
    have hs189 := hR188.size
    have e26 : (vals 26) = (.bool (((before (ev3.getD 0 default) (ev3.getD 1 default)) && (!(before (ev3.getD 1 default) (ev3.getD 0 default)))) && (apart (ev3.getD 0 default) (ev3.getD 2 default))) : Value) := hA 26 (by decide)
    have e33 : (vals 33) = (if (((before (ev3.getD 0 default) (ev3.getD 1 default)) && (!(before (ev3.getD 1 default) (ev3.getD 0 default)))) && (apart (ev3.getD 0 default) (ev3.getD 2 default))) = true then (.bool (apart (ev3.getD 0 default) (ev3.getD 0 default)) : Value) else undef) := hA 33 (by decide)
    refine oblc rfl rfl (show _ = (.bool (((before (ev3.getD 0 default) (ev3.getD 1 default)) && (!(before (ev3.getD 1 default) (ev3.getD 0 default)))) && (apart (ev3.getD 0 default) (ev3.getD 2 default))) : Value) from e26) (fun hb190 => ?_) (fun hb190 => (if_neg hb190).symm)
    have hl191 : (((before (ev3.getD 0 default) (ev3.getD 1 default)) && (!(before (ev3.getD 1 default) (ev3.getD 0 default)))) && (apart (ev3.getD 0 default) (ev3.getD 2 default))) = true := hb190
    simp only [Bool.and_eq_true, Bool.or_eq_true, Bool.and_eq_false_iff, Bool.or_eq_false_iff, decide_eq_true_eq, decide_eq_false_iff_not, Bool.not_eq_true', Bool.not_eq_false', Int.not_lt, Int.not_le] at hl191
    exact ov_not (a := apart (ev3.getD 0 default) (ev3.getD 0 default)) (show _ = (.bool (apart (ev3.getD 0 default) (ev3.getD 0 default)) : Value) from (Eq.trans e33 (if_pos hb190))) ⟨Chg.refl _ _, (if_pos hb190).symm⟩
  · intro vals w51 hR192 hA
    have hs193 := hR192.size
    have e26 : (vals 26) = (.bool (((before (ev3.getD 0 default) (ev3.getD 1 default)) && (!(before (ev3.getD 1 default) (ev3.getD 0 default)))) && (apart (ev3.getD 0 default) (ev3.getD 2 default))) : Value) := hA 26 (by decide)
    have e34 : (vals 34) = (if (((before (ev3.getD 0 default) (ev3.getD 1 default)) && (!(before (ev3.getD 1 default) (ev3.getD 0 default)))) && (apart (ev3.getD 0 default) (ev3.getD 2 default))) = true then (.bool (!(apart (ev3.getD 0 default) (ev3.getD 0 default))) : Value) else undef) := hA 34 (by decide)
    refine obl rfl ?_
    exact ov_pick_and (b := ((before (ev3.getD 0 default) (ev3.getD 1 default)) && (!(before (ev3.getD 1 default) (ev3.getD 0 default)))) && (apart (ev3.getD 0 default) (ev3.getD 2 default))) (b' := !(apart (ev3.getD 0 default) (ev3.getD 0 default))) (show _ = (.bool (((before (ev3.getD 0 default) (ev3.getD 1 default)) && (!(before (ev3.getD 1 default) (ev3.getD 0 default)))) && (apart (ev3.getD 0 default) (ev3.getD 2 default))) : Value) from e26) (fun hbp => (show _ = (.bool (!(apart (ev3.getD 0 default) (ev3.getD 0 default))) : Value) from (Eq.trans e34 (if_pos hbp)))) ⟨Chg.refl _ _, rfl⟩
  · intro vals w52 hR194 hA
    have hs195 := hR194.size
    have e35 : (vals 35) = (.bool ((((before (ev3.getD 0 default) (ev3.getD 1 default)) && (!(before (ev3.getD 1 default) (ev3.getD 0 default)))) && (apart (ev3.getD 0 default) (ev3.getD 2 default))) && (!(apart (ev3.getD 0 default) (ev3.getD 0 default)))) : Value) := hA 35 (by decide)
    refine obl rfl ?_
    exact ov_move (v := .bool ((((before (ev3.getD 0 default) (ev3.getD 1 default)) && (!(before (ev3.getD 1 default) (ev3.getD 0 default)))) && (apart (ev3.getD 0 default) (ev3.getD 2 default))) && (!(apart (ev3.getD 0 default) (ev3.getD 0 default))))) (show _ = (.bool ((((before (ev3.getD 0 default) (ev3.getD 1 default)) && (!(before (ev3.getD 1 default) (ev3.getD 0 default)))) && (apart (ev3.getD 0 default) (ev3.getD 2 default))) && (!(apart (ev3.getD 0 default) (ev3.getD 0 default)))) : Value) from e35) ⟨Chg.refl _ _, rfl⟩
  · intro vals w53 hR196 hA
    have hs197 := hR196.size
    have e36 : (vals 36) = (.bool ((((before (ev3.getD 0 default) (ev3.getD 1 default)) && (!(before (ev3.getD 1 default) (ev3.getD 0 default)))) && (apart (ev3.getD 0 default) (ev3.getD 2 default))) && (!(apart (ev3.getD 0 default) (ev3.getD 0 default)))) : Value) := hA 36 (by decide)
    refine oblc rfl rfl (show _ = (.bool ((((before (ev3.getD 0 default) (ev3.getD 1 default)) && (!(before (ev3.getD 1 default) (ev3.getD 0 default)))) && (apart (ev3.getD 0 default) (ev3.getD 2 default))) && (!(apart (ev3.getD 0 default) (ev3.getD 0 default)))) : Value) from e36) (fun hb198 => ?_) (fun hb198 => (if_neg hb198).symm)
    have hl199 : ((((before (ev3.getD 0 default) (ev3.getD 1 default)) && (!(before (ev3.getD 1 default) (ev3.getD 0 default)))) && (apart (ev3.getD 0 default) (ev3.getD 2 default))) && (!(apart (ev3.getD 0 default) (ev3.getD 0 default)))) = true := hb198
    simp only [Bool.and_eq_true, Bool.or_eq_true, Bool.and_eq_false_iff, Bool.or_eq_false_iff, decide_eq_true_eq, decide_eq_false_iff_not, Bool.not_eq_true', Bool.not_eq_false', Int.not_lt, Int.not_le] at hl199
    exact ov_move (v := v3) rfl ⟨Chg.refl _ _, (if_pos hb198).symm⟩
  · intro vals w54 hR200 hA
    have hs201 := hR200.size
    have e36 : (vals 36) = (.bool ((((before (ev3.getD 0 default) (ev3.getD 1 default)) && (!(before (ev3.getD 1 default) (ev3.getD 0 default)))) && (apart (ev3.getD 0 default) (ev3.getD 2 default))) && (!(apart (ev3.getD 0 default) (ev3.getD 0 default)))) : Value) := hA 36 (by decide)
    have e37 : (vals 37) = (if ((((before (ev3.getD 0 default) (ev3.getD 1 default)) && (!(before (ev3.getD 1 default) (ev3.getD 0 default)))) && (apart (ev3.getD 0 default) (ev3.getD 2 default))) && (!(apart (ev3.getD 0 default) (ev3.getD 0 default)))) = true then (v3 : Value) else undef) := hA 37 (by decide)
    refine oblc rfl rfl (show _ = (.bool ((((before (ev3.getD 0 default) (ev3.getD 1 default)) && (!(before (ev3.getD 1 default) (ev3.getD 0 default)))) && (apart (ev3.getD 0 default) (ev3.getD 2 default))) && (!(apart (ev3.getD 0 default) (ev3.getD 0 default)))) : Value) from e36) (fun hb202 => ?_) (fun hb202 => (if_neg hb202).symm)
    have hl203 : ((((before (ev3.getD 0 default) (ev3.getD 1 default)) && (!(before (ev3.getD 1 default) (ev3.getD 0 default)))) && (apart (ev3.getD 0 default) (ev3.getD 2 default))) && (!(apart (ev3.getD 0 default) (ev3.getD 0 default)))) = true := hb202
    simp only [Bool.and_eq_true, Bool.or_eq_true, Bool.and_eq_false_iff, Bool.or_eq_false_iff, decide_eq_true_eq, decide_eq_false_iff_not, Bool.not_eq_true', Bool.not_eq_false', Int.not_lt, Int.not_le] at hl203
    have hi204 : 0 < ev3.length := by decide
    exact ov_indexAddrN (k := 10) (i := 0) Try.underlying22 Try.sizeOf29 (show _ = (v3 : Value) from (Eq.trans e37 (if_pos hb202))) hr2.sl rfl hi204 ⟨Chg.refl _ _, (if_pos hb202).symm⟩
  · intro vals w55 hR205 hA
    have hs206 := hR205.size
    have e36 : (vals 36) = (.bool ((((before (ev3.getD 0 default) (ev3.getD 1 default)) && (!(before (ev3.getD 1 default) (ev3.getD 0 default)))) && (apart (ev3.getD 0 default) (ev3.getD 2 default))) && (!(apart (ev3.getD 0 default) (ev3.getD 0 default)))) : Value) := hA 36 (by decide)
    have e38 : (vals 38) = (if ((((before (ev3.getD 0 default) (ev3.getD 1 default)) && (!(before (ev3.getD 1 default) (ev3.getD 0 default)))) && (apart (ev3.getD 0 default) (ev3.getD 2 default))) && (!(apart (ev3.getD 0 default) (ev3.getD 0 default)))) = true then (.pointer (some ⟨sb v3, so v3 + 0 * 10, none⟩) : Value) else undef) := hA 38 (by decide)
    refine oblc rfl rfl (show _ = (.bool ((((before (ev3.getD 0 default) (ev3.getD 1 default)) && (!(before (ev3.getD 1 default) (ev3.getD 0 default)))) && (apart (ev3.getD 0 default) (ev3.getD 2 default))) && (!(apart (ev3.getD 0 default) (ev3.getD 0 default)))) : Value) from e36) (fun hb207 => ?_) (fun hb207 => (if_neg hb207).symm)
    have hl208 : ((((before (ev3.getD 0 default) (ev3.getD 1 default)) && (!(before (ev3.getD 1 default) (ev3.getD 0 default)))) && (apart (ev3.getD 0 default) (ev3.getD 2 default))) && (!(apart (ev3.getD 0 default) (ev3.getD 0 default)))) = true := hb207
    simp only [Bool.and_eq_true, Bool.or_eq_true, Bool.and_eq_false_iff, Bool.or_eq_false_iff, decide_eq_true_eq, decide_eq_false_iff_not, Bool.not_eq_true', Bool.not_eq_false', Int.not_lt, Int.not_le] at hl208
    have h209 := hc47.mono (fun hb => (Chg.trans (Chg.trans (Chg.trans (Chg.trans (Chg.trans hx4 hR35) hn38.ext) hx49) hx52) hR205).block _ hb (fun h => h))
    exact ov_loadk (k := 10) Try.isAgg29 Try.sizeOf29 rfl (show _ = (.pointer (some ⟨sb v3, so v3 + 0 * 10, none⟩) : Value) from (Eq.trans e38 (if_pos hb207))) h209 ⟨Chg.refl _ _, (if_pos hb207).symm⟩
  · intro vals w56 hR210 hA
    have hs211 := hR210.size
    have e36 : (vals 36) = (.bool ((((before (ev3.getD 0 default) (ev3.getD 1 default)) && (!(before (ev3.getD 1 default) (ev3.getD 0 default)))) && (apart (ev3.getD 0 default) (ev3.getD 2 default))) && (!(apart (ev3.getD 0 default) (ev3.getD 0 default)))) : Value) := hA 36 (by decide)
    refine oblc rfl rfl (show _ = (.bool ((((before (ev3.getD 0 default) (ev3.getD 1 default)) && (!(before (ev3.getD 1 default) (ev3.getD 0 default)))) && (apart (ev3.getD 0 default) (ev3.getD 2 default))) && (!(apart (ev3.getD 0 default) (ev3.getD 0 default)))) : Value) from e36) (fun hb212 => ?_) (fun hb212 => (if_neg hb212).symm)
    have hl213 : ((((before (ev3.getD 0 default) (ev3.getD 1 default)) && (!(before (ev3.getD 1 default) (ev3.getD 0 default)))) && (apart (ev3.getD 0 default) (ev3.getD 2 default))) && (!(apart (ev3.getD 0 default) (ev3.getD 0 default)))) = true := hb212
    simp only [Bool.and_eq_true, Bool.or_eq_true, Bool.and_eq_false_iff, Bool.or_eq_false_iff, decide_eq_true_eq, decide_eq_false_iff_not, Bool.not_eq_true', Bool.not_eq_false', Int.not_lt, Int.not_le] at hl213
    exact ov_move (v := v3) rfl ⟨Chg.refl _ _, (if_pos hb212).symm⟩
  · intro vals w57 hR214 hA
    have hs215 := hR214.size
    have e36 : (vals 36) = (.bool ((((before (ev3.getD 0 default) (ev3.getD 1 default)) && (!(before (ev3.getD 1 default) (ev3.getD 0 default)))) && (apart (ev3.getD 0 default) (ev3.getD 2 default))) && (!(apart (ev3.getD 0 default) (ev3.getD 0 default)))) : Value) := hA 36 (by decide)
    have e40 : (vals 40) = (if ((((before (ev3.getD 0 default) (ev3.getD 1 default)) && (!(before (ev3.getD 1 default) (ev3.getD 0 default)))) && (apart (ev3.getD 0 default) (ev3.getD 2 default))) && (!(apart (ev3.getD 0 default) (ev3.getD 0 default)))) = true then (v3 : Value) else undef) := hA 40 (by decide)
    refine oblc rfl rfl (show _ = (.bool ((((before (ev3.getD 0 default) (ev3.getD 1 default)) && (!(before (ev3.getD 1 default) (ev3.getD 0 default)))) && (apart (ev3.getD 0 default) (ev3.getD 2 default))) && (!(apart (ev3.getD 0 default) (ev3.getD 0 default)))) : Value) from e36) (fun hb216 => ?_) (fun hb216 => (if_neg hb216).symm)
    have hl217 : ((((before (ev3.getD 0 default) (ev3.getD 1 default)) && (!(before (ev3.getD 1 default) (ev3.getD 0 default)))) && (apart (ev3.getD 0 default) (ev3.getD 2 default))) && (!(apart (ev3.getD 0 default) (ev3.getD 0 default)))) = true := hb216
    simp only [Bool.and_eq_true, Bool.or_eq_true, Bool.and_eq_false_iff, Bool.or_eq_false_iff, decide_eq_true_eq, decide_eq_false_iff_not, Bool.not_eq_true', Bool.not_eq_false', Int.not_lt, Int.not_le] at hl217
    have hi218 : 2 < ev3.length := by decide
    exact ov_indexAddrN (k := 10) (i := 2) Try.underlying22 Try.sizeOf29 (show _ = (v3 : Value) from (Eq.trans e40 (if_pos hb216))) hr2.sl rfl hi218 ⟨Chg.refl _ _, (if_pos hb216).symm⟩
  · intro vals w58 hR219 hA
    have hs220 := hR219.size
    have e36 : (vals 36) = (.bool ((((before (ev3.getD 0 default) (ev3.getD 1 default)) && (!(before (ev3.getD 1 default) (ev3.getD 0 default)))) && (apart (ev3.getD 0 default) (ev3.getD 2 default))) && (!(apart (ev3.getD 0 default) (ev3.getD 0 default)))) : Value) := hA 36 (by decide)
    have e41 : (vals 41) = (if ((((before (ev3.getD 0 default) (ev3.getD 1 default)) && (!(before (ev3.getD 1 default) (ev3.getD 0 default)))) && (apart (ev3.getD 0 default) (ev3.getD 2 default))) && (!(apart (ev3.getD 0 default) (ev3.getD 0 default)))) = true then (.pointer (some ⟨sb v3, so v3 + 2 * 10, none⟩) : Value) else undef) := hA 41 (by decide)
    refine oblc rfl rfl (show _ = (.bool ((((before (ev3.getD 0 default) (ev3.getD 1 default)) && (!(before (ev3.getD 1 default) (ev3.getD 0 default)))) && (apart (ev3.getD 0 default) (ev3.getD 2 default))) && (!(apart (ev3.getD 0 default) (ev3.getD 0 default)))) : Value) from e36) (fun hb221 => ?_) (fun hb221 => (if_neg hb221).symm)
    have hl222 : ((((before (ev3.getD 0 default) (ev3.getD 1 default)) && (!(before (ev3.getD 1 default) (ev3.getD 0 default)))) && (apart (ev3.getD 0 default) (ev3.getD 2 default))) && (!(apart (ev3.getD 0 default) (ev3.getD 0 default)))) = true := hb221
    simp only [Bool.and_eq_true, Bool.or_eq_true, Bool.and_eq_false_iff, Bool.or_eq_false_iff, decide_eq_true_eq, decide_eq_false_iff_not, Bool.not_eq_true', Bool.not_eq_false', Int.not_lt, Int.not_le] at hl222
    have h223 := hc45.mono (fun hb => (Chg.trans (Chg.trans (Chg.trans (Chg.trans (Chg.trans hx4 hR35) hn38.ext) hx49) hx52) hR219).block _ hb (fun h => h))
    exact ov_loadk (k := 10) Try.isAgg29 Try.sizeOf29 rfl (show _ = (.pointer (some ⟨sb v3, so v3 + 2 * 10, none⟩) : Value) from (Eq.trans e41 (if_pos hb221))) h223 ⟨Chg.refl _ _, (if_pos hb221).symm⟩
  · intro vals w59 hR224 hA
    have hs225 := hR224.size
    have e36 : (vals 36) = (.bool ((((before (ev3.getD 0 default) (ev3.getD 1 default)) && (!(before (ev3.getD 1 default) (ev3.getD 0 default)))) && (apart (ev3.getD 0 default) (ev3.getD 2 default))) && (!(apart (ev3.getD 0 default) (ev3.getD 0 default)))) : Value) := hA 36 (by decide)
    have e39 : (vals 39) = (if ((((before (ev3.getD 0 default) (ev3.getD 1 default)) && (!(before (ev3.getD 1 default) (ev3.getD 0 default)))) && (apart (ev3.getD 0 default) (ev3.getD 2 default))) && (!(apart (ev3.getD 0 default) (ev3.getD 0 default)))) = true then (.agg ((ev3.getD 0 default).cells (cellV w1 (sb v3) (so v3 + 0 * 10 + 3))).toArray : Value) else undef) := hA 39 (by decide)
    have e42 : (vals 42) = (if ((((before (ev3.getD 0 default) (ev3.getD 1 default)) && (!(before (ev3.getD 1 default) (ev3.getD 0 default)))) && (apart (ev3.getD 0 default) (ev3.getD 2 default))) && (!(apart (ev3.getD 0 default) (ev3.getD 0 default)))) = true then (.agg ((ev3.getD 2 default).cells (cellV w1 (sb v3) (so v3 + 2 * 10 + 3))).toArray : Value) else undef) := hA 42 (by decide)
    refine oblc rfl rfl (show _ = (.bool ((((before (ev3.getD 0 default) (ev3.getD 1 default)) && (!(before (ev3.getD 1 default) (ev3.getD 0 default)))) && (apart (ev3.getD 0 default) (ev3.getD 2 default))) && (!(apart (ev3.getD 0 default) (ev3.getD 0 default)))) : Value) from e36) (fun hb226 => ?_) (fun hb226 => (if_neg hb226).symm)
    have hl227 : ((((before (ev3.getD 0 default) (ev3.getD 1 default)) && (!(before (ev3.getD 1 default) (ev3.getD 0 default)))) && (apart (ev3.getD 0 default) (ev3.getD 2 default))) && (!(apart (ev3.getD 0 default) (ev3.getD 0 default)))) = true := hb226
    simp only [Bool.and_eq_true, Bool.or_eq_true, Bool.and_eq_false_iff, Bool.or_eq_false_iff, decide_eq_true_eq, decide_eq_false_iff_not, Bool.not_eq_true', Bool.not_eq_false', Int.not_lt, Int.not_le] at hl227
    have h228 := h48.ext (Chg.trans (Chg.trans hx49 hx52) hR224)
    have h229 := h46.ext (Chg.trans (Chg.trans hx49 hx52) hR224)
    exact ov_call (f := 15) (vals := [.agg ((ev3.getD 0 default).cells (cellV w1 (sb v3) (so v3 + 0 * 10 + 3))).toArray, .agg ((ev3.getD 2 default).cells (cellV w1 (sb v3) (so v3 + 2 * 10 + 3))).toArray]) (cap := []) (show _ = (.func (.func 15) #[] #[] : Value) from rfl) (mapL ⟨(show _ = (.agg ((ev3.getD 0 default).cells (cellV w1 (sb v3) (so v3 + 0 * 10 + 3))).toArray : Value) from (Eq.trans e39 (if_pos hb226))), (show _ = (.agg ((ev3.getD 2 default).cells (cellV w1 (sb v3) (so v3 + 2 * 10 + 3))).toArray : Value) from (Eq.trans e42 (if_pos hb226))), trivial⟩) Try.call15 (C_Less h228 hok47 h229 hok45) (fun _ _ h => ⟨h.2, h.1.trans (if_pos hb226).symm⟩)
  · intro vals w60 hR230 hA
    have hs231 := hR230.size
    have e36 : (vals 36) = (.bool ((((before (ev3.getD 0 default) (ev3.getD 1 default)) && (!(before (ev3.getD 1 default) (ev3.getD 0 default)))) && (apart (ev3.getD 0 default) (ev3.getD 2 default))) && (!(apart (ev3.getD 0 default) (ev3.getD 0 default)))) : Value) := hA 36 (by decide)
    have e43 : (vals 43) = (if ((((before (ev3.getD 0 default) (ev3.getD 1 default)) && (!(before (ev3.getD 1 default) (ev3.getD 0 default)))) && (apart (ev3.getD 0 default) (ev3.getD 2 default))) && (!(apart (ev3.getD 0 default) (ev3.getD 0 default)))) = true then (.bool (less (ev3.getD 0 default) (ev3.getD 2 default)) : Value) else undef) := hA 43 (by decide)
    refine obl rfl ?_
    exact ov_pick_and (b := (((before (ev3.getD 0 default) (ev3.getD 1 default)) && (!(before (ev3.getD 1 default) (ev3.getD 0 default)))) && (apart (ev3.getD 0 default) (ev3.getD 2 default))) && (!(apart (ev3.getD 0 default) (ev3.getD 0 default)))) (b' := less (ev3.getD 0 default) (ev3.getD 2 default)) (show _ = (.bool ((((before (ev3.getD 0 default) (ev3.getD 1 default)) && (!(before (ev3.getD 1 default) (ev3.getD 0 default)))) && (apart (ev3.getD 0 default) (ev3.getD 2 default))) && (!(apart (ev3.getD 0 default) (ev3.getD 0 default)))) : Value) from e36) (fun hbp => (show _ = (.bool (less (ev3.getD 0 default) (ev3.getD 2 default)) : Value) from (Eq.trans e43 (if_pos hbp)))) ⟨Chg.refl _ _, rfl⟩
  · intro vals w61 hR232 hA
    have hs233 := hR232.size
    have e44 : (vals 44) = (.bool (((((before (ev3.getD 0 default) (ev3.getD 1 default)) && (!(before (ev3.getD 1 default) (ev3.getD 0 default)))) && (apart (ev3.getD 0 default) (ev3.getD 2 default))) && (!(apart (ev3.getD 0 default) (ev3.getD 0 default)))) && (less (ev3.getD 0 default) (ev3.getD 2 default))) : Value) := hA 44 (by decide)
    refine obl rfl ?_
    exact ov_move (v := .bool (((((before (ev3.getD 0 default) (ev3.getD 1 default)) && (!(before (ev3.getD 1 default) (ev3.getD 0 default)))) && (apart (ev3.getD 0 default) (ev3.getD 2 default))) && (!(apart (ev3.getD 0 default) (ev3.getD 0 default)))) && (less (ev3.getD 0 default) (ev3.getD 2 default)))) (show _ = (.bool (((((before (ev3.getD 0 default) (ev3.getD 1 default)) && (!(before (ev3.getD 1 default) (ev3.getD 0 default)))) && (apart (ev3.getD 0 default) (ev3.getD 2 default))) && (!(apart (ev3.getD 0 default) (ev3.getD 0 default)))) && (less (ev3.getD 0 default) (ev3.getD 2 default))) : Value) from e44) ⟨Chg.refl _ _, rfl⟩
  · intro vals w62 hR234 hA
    have hs235 := hR234.size
    have e45 : (vals 45) = (.bool (((((before (ev3.getD 0 default) (ev3.getD 1 default)) && (!(before (ev3.getD 1 default) (ev3.getD 0 default)))) && (apart (ev3.getD 0 default) (ev3.getD 2 default))) && (!(apart (ev3.getD 0 default) (ev3.getD 0 default)))) && (less (ev3.getD 0 default) (ev3.getD 2 default))) : Value) := hA 45 (by decide)
    refine oblc rfl rfl (show _ = (.bool (((((before (ev3.getD 0 default) (ev3.getD 1 default)) && (!(before (ev3.getD 1 default) (ev3.getD 0 default)))) && (apart (ev3.getD 0 default) (ev3.getD 2 default))) && (!(apart (ev3.getD 0 default) (ev3.getD 0 default)))) && (less (ev3.getD 0 default) (ev3.getD 2 default))) : Value) from e45) (fun hb236 => ?_) (fun hb236 => (if_neg hb236).symm)
    have hl237 : (((((before (ev3.getD 0 default) (ev3.getD 1 default)) && (!(before (ev3.getD 1 default) (ev3.getD 0 default)))) && (apart (ev3.getD 0 default) (ev3.getD 2 default))) && (!(apart (ev3.getD 0 default) (ev3.getD 0 default)))) && (less (ev3.getD 0 default) (ev3.getD 2 default))) = true := hb236
    simp only [Bool.and_eq_true, Bool.or_eq_true, Bool.and_eq_false_iff, Bool.or_eq_false_iff, decide_eq_true_eq, decide_eq_false_iff_not, Bool.not_eq_true', Bool.not_eq_false', Int.not_lt, Int.not_le] at hl237
    exact ov_move (v := v51) rfl ⟨Chg.refl _ _, (if_pos hb236).symm⟩
  · intro vals w63 hR238 hA
    have hs239 := hR238.size
    have e45 : (vals 45) = (.bool (((((before (ev3.getD 0 default) (ev3.getD 1 default)) && (!(before (ev3.getD 1 default) (ev3.getD 0 default)))) && (apart (ev3.getD 0 default) (ev3.getD 2 default))) && (!(apart (ev3.getD 0 default) (ev3.getD 0 default)))) && (less (ev3.getD 0 default) (ev3.getD 2 default))) : Value) := hA 45 (by decide)
    refine oblc rfl rfl (show _ = (.bool (((((before (ev3.getD 0 default) (ev3.getD 1 default)) && (!(before (ev3.getD 1 default) (ev3.getD 0 default)))) && (apart (ev3.getD 0 default) (ev3.getD 2 default))) && (!(apart (ev3.getD 0 default) (ev3.getD 0 default)))) && (less (ev3.getD 0 default) (ev3.getD 2 default))) : Value) from e45) (fun hb240 => ?_) (fun hb240 => (if_neg hb240).symm)
    have hl241 : (((((before (ev3.getD 0 default) (ev3.getD 1 default)) && (!(before (ev3.getD 1 default) (ev3.getD 0 default)))) && (apart (ev3.getD 0 default) (ev3.getD 2 default))) && (!(apart (ev3.getD 0 default) (ev3.getD 0 default)))) && (less (ev3.getD 0 default) (ev3.getD 2 default))) = true := hb240
    simp only [Bool.and_eq_true, Bool.or_eq_true, Bool.and_eq_false_iff, Bool.or_eq_false_iff, decide_eq_true_eq, decide_eq_false_iff_not, Bool.not_eq_true', Bool.not_eq_false', Int.not_lt, Int.not_le] at hl241
    exact ov_move (v := v3) rfl ⟨Chg.refl _ _, (if_pos hb240).symm⟩
  · intro vals w64 hR242 hA
    have hs243 := hR242.size
    have e45 : (vals 45) = (.bool (((((before (ev3.getD 0 default) (ev3.getD 1 default)) && (!(before (ev3.getD 1 default) (ev3.getD 0 default)))) && (apart (ev3.getD 0 default) (ev3.getD 2 default))) && (!(apart (ev3.getD 0 default) (ev3.getD 0 default)))) && (less (ev3.getD 0 default) (ev3.getD 2 default))) : Value) := hA 45 (by decide)
    have e47 : (vals 47) = (if (((((before (ev3.getD 0 default) (ev3.getD 1 default)) && (!(before (ev3.getD 1 default) (ev3.getD 0 default)))) && (apart (ev3.getD 0 default) (ev3.getD 2 default))) && (!(apart (ev3.getD 0 default) (ev3.getD 0 default)))) && (less (ev3.getD 0 default) (ev3.getD 2 default))) = true then (v3 : Value) else undef) := hA 47 (by decide)
    refine oblc rfl rfl (show _ = (.bool (((((before (ev3.getD 0 default) (ev3.getD 1 default)) && (!(before (ev3.getD 1 default) (ev3.getD 0 default)))) && (apart (ev3.getD 0 default) (ev3.getD 2 default))) && (!(apart (ev3.getD 0 default) (ev3.getD 0 default)))) && (less (ev3.getD 0 default) (ev3.getD 2 default))) : Value) from e45) (fun hb244 => ?_) (fun hb244 => (if_neg hb244).symm)
    have hl245 : (((((before (ev3.getD 0 default) (ev3.getD 1 default)) && (!(before (ev3.getD 1 default) (ev3.getD 0 default)))) && (apart (ev3.getD 0 default) (ev3.getD 2 default))) && (!(apart (ev3.getD 0 default) (ev3.getD 0 default)))) && (less (ev3.getD 0 default) (ev3.getD 2 default))) = true := hb244
    simp only [Bool.and_eq_true, Bool.or_eq_true, Bool.and_eq_false_iff, Bool.or_eq_false_iff, decide_eq_true_eq, decide_eq_false_iff_not, Bool.not_eq_true', Bool.not_eq_false', Int.not_lt, Int.not_le] at hl245
    have hi246 : 0 < ev3.length := by decide
    exact ov_indexAddrN (k := 10) (i := 0) Try.underlying22 Try.sizeOf29 (show _ = (v3 : Value) from (Eq.trans e47 (if_pos hb244))) hr2.sl rfl hi246 ⟨Chg.refl _ _, (if_pos hb244).symm⟩
  · intro vals w65 hR247 hA
    have hs248 := hR247.size
    have e45 : (vals 45) = (.bool (((((before (ev3.getD 0 default) (ev3.getD 1 default)) && (!(before (ev3.getD 1 default) (ev3.getD 0 default)))) && (apart (ev3.getD 0 default) (ev3.getD 2 default))) && (!(apart (ev3.getD 0 default) (ev3.getD 0 default)))) && (less (ev3.getD 0 default) (ev3.getD 2 default))) : Value) := hA 45 (by decide)
    have e48 : (vals 48) = (if (((((before (ev3.getD 0 default) (ev3.getD 1 default)) && (!(before (ev3.getD 1 default) (ev3.getD 0 default)))) && (apart (ev3.getD 0 default) (ev3.getD 2 default))) && (!(apart (ev3.getD 0 default) (ev3.getD 0 default)))) && (less (ev3.getD 0 default) (ev3.getD 2 default))) = true then (.pointer (some ⟨sb v3, so v3 + 0 * 10, none⟩) : Value) else undef) := hA 48 (by decide)
    refine oblc rfl rfl (show _ = (.bool (((((before (ev3.getD 0 default) (ev3.getD 1 default)) && (!(before (ev3.getD 1 default) (ev3.getD 0 default)))) && (apart (ev3.getD 0 default) (ev3.getD 2 default))) && (!(apart (ev3.getD 0 default) (ev3.getD 0 default)))) && (less (ev3.getD 0 default) (ev3.getD 2 default))) : Value) from e45) (fun hb249 => ?_) (fun hb249 => (if_neg hb249).symm)
    have hl250 : (((((before (ev3.getD 0 default) (ev3.getD 1 default)) && (!(before (ev3.getD 1 default) (ev3.getD 0 default)))) && (apart (ev3.getD 0 default) (ev3.getD 2 default))) && (!(apart (ev3.getD 0 default) (ev3.getD 0 default)))) && (less (ev3.getD 0 default) (ev3.getD 2 default))) = true := hb249
    simp only [Bool.and_eq_true, Bool.or_eq_true, Bool.and_eq_false_iff, Bool.or_eq_false_iff, decide_eq_true_eq, decide_eq_false_iff_not, Bool.not_eq_true', Bool.not_eq_false', Int.not_lt, Int.not_le] at hl250
    have h251 := hc47.mono (fun hb => (Chg.trans (Chg.trans (Chg.trans (Chg.trans (Chg.trans hx4 hR35) hn38.ext) hx49) hx52) hR247).block _ hb (fun h => h))
    exact ov_loadk (k := 10) Try.isAgg29 Try.sizeOf29 rfl (show _ = (.pointer (some ⟨sb v3, so v3 + 0 * 10, none⟩) : Value) from (Eq.trans e48 (if_pos hb249))) h251 ⟨Chg.refl _ _, (if_pos hb249).symm⟩
  · intro vals w66 hR252 hA
    have hs253 := hR252.size
    have e45 : (vals 45) = (.bool (((((before (ev3.getD 0 default) (ev3.getD 1 default)) && (!(before (ev3.getD 1 default) (ev3.getD 0 default)))) && (apart (ev3.getD 0 default) (ev3.getD 2 default))) && (!(apart (ev3.getD 0 default) (ev3.getD 0 default)))) && (less (ev3.getD 0 default) (ev3.getD 2 default))) : Value) := hA 45 (by decide)
    refine oblc rfl rfl (show _ = (.bool (((((before (ev3.getD 0 default) (ev3.getD 1 default)) && (!(before (ev3.getD 1 default) (ev3.getD 0 default)))) && (apart (ev3.getD 0 default) (ev3.getD 2 default))) && (!(apart (ev3.getD 0 default) (ev3.getD 0 default)))) && (less (ev3.getD 0 default) (ev3.getD 2 default))) : Value) from e45) (fun hb254 => ?_) (fun hb254 => (if_neg hb254).symm)
    have hl255 : (((((before (ev3.getD 0 default) (ev3.getD 1 default)) && (!(before (ev3.getD 1 default) (ev3.getD 0 default)))) && (apart (ev3.getD 0 default) (ev3.getD 2 default))) && (!(apart (ev3.getD 0 default) (ev3.getD 0 default)))) && (less (ev3.getD 0 default) (ev3.getD 2 default))) = true := hb254
    simp only [Bool.and_eq_true, Bool.or_eq_true, Bool.and_eq_false_iff, Bool.or_eq_false_iff, decide_eq_true_eq, decide_eq_false_iff_not, Bool.not_eq_true', Bool.not_eq_false', Int.not_lt, Int.not_le] at hl255
    exact ov_move (v := v3) rfl ⟨Chg.refl _ _, (if_pos hb254).symm⟩
  · intro vals w67 hR256 hA
    have hs257 := hR256.size
    have e45 : (vals 45) = (.bool (((((before (ev3.getD 0 default) (ev3.getD 1 default)) && (!(before (ev3.getD 1 default) (ev3.getD 0 default)))) && (apart (ev3.getD 0 default) (ev3.getD 2 default))) && (!(apart (ev3.getD 0 default) (ev3.getD 0 default)))) && (less (ev3.getD 0 default) (ev3.getD 2 default))) : Value) := hA 45 (by decide)
    have e50 : (vals 50) = (if (((((before (ev3.getD 0 default) (ev3.getD 1 default)) && (!(before (ev3.getD 1 default) (ev3.getD 0 default)))) && (apart (ev3.getD 0 default) (ev3.getD 2 default))) && (!(apart (ev3.getD 0 default) (ev3.getD 0 default)))) && (less (ev3.getD 0 default) (ev3.getD 2 default))) = true then (v3 : Value) else undef) := hA 50 (by decide)
    refine oblc rfl rfl (show _ = (.bool (((((before (ev3.getD 0 default) (ev3.getD 1 default)) && (!(before (ev3.getD 1 default) (ev3.getD 0 default)))) && (apart (ev3.getD 0 default) (ev3.getD 2 default))) && (!(apart (ev3.getD 0 default) (ev3.getD 0 default)))) && (less (ev3.getD 0 default) (ev3.getD 2 default))) : Value) from e45) (fun hb258 => ?_) (fun hb258 => (if_neg hb258).symm)
    have hl259 : (((((before (ev3.getD 0 default) (ev3.getD 1 default)) && (!(before (ev3.getD 1 default) (ev3.getD 0 default)))) && (apart (ev3.getD 0 default) (ev3.getD 2 default))) && (!(apart (ev3.getD 0 default) (ev3.getD 0 default)))) && (less (ev3.getD 0 default) (ev3.getD 2 default))) = true := hb258
    simp only [Bool.and_eq_true, Bool.or_eq_true, Bool.and_eq_false_iff, Bool.or_eq_false_iff, decide_eq_true_eq, decide_eq_false_iff_not, Bool.not_eq_true', Bool.not_eq_false', Int.not_lt, Int.not_le] at hl259
    have hi260 : 2 < ev3.length := by decide
    exact ov_indexAddrN (k := 10) (i := 2) Try.underlying22 Try.sizeOf29 (show _ = (v3 : Value) from (Eq.trans e50 (if_pos hb258))) hr2.sl rfl hi260 ⟨Chg.refl _ _, (if_pos hb258).symm⟩
  · intro vals w68 hR261 hA
    have hs262 := hR261.size
    have e45 : (vals 45) = (.bool (((((before (ev3.getD 0 default) (ev3.getD 1 default)) && (!(before (ev3.getD 1 default) (ev3.getD 0 default)))) && (apart (ev3.getD 0 default) (ev3.getD 2 default))) && (!(apart (ev3.getD 0 default) (ev3.getD 0 default)))) && (less (ev3.getD 0 default) (ev3.getD 2 default))) : Value) := hA 45 (by decide)
    have e51 : (vals 51) = (if (((((before (ev3.getD 0 default) (ev3.getD 1 default)) && (!(before (ev3.getD 1 default) (ev3.getD 0 default)))) && (apart (ev3.getD 0 default) (ev3.getD 2 default))) && (!(apart (ev3.getD 0 default) (ev3.getD 0 default)))) && (less (ev3.getD 0 default) (ev3.getD 2 default))) = true then (.pointer (some ⟨sb v3, so v3 + 2 * 10, none⟩) : Value) else undef) := hA 51 (by decide)
    refine oblc rfl rfl (show _ = (.bool (((((before (ev3.getD 0 default) (ev3.getD 1 default)) && (!(before (ev3.getD 1 default) (ev3.getD 0 default)))) && (apart (ev3.getD 0 default) (ev3.getD 2 default))) && (!(apart (ev3.getD 0 default) (ev3.getD 0 default)))) && (less (ev3.getD 0 default) (ev3.getD 2 default))) : Value) from e45) (fun hb263 => ?_) (fun hb263 => (if_neg hb263).symm)
    have hl264 : (((((before (ev3.getD 0 default) (ev3.getD 1 default)) && (!(before (ev3.getD 1 default) (ev3.getD 0 default)))) && (apart (ev3.getD 0 default) (ev3.getD 2 default))) && (!(apart (ev3.getD 0 default) (ev3.getD 0 default)))) && (less (ev3.getD 0 default) (ev3.getD 2 default))) = true := hb263
    simp only [Bool.and_eq_true, Bool.or_eq_true, Bool.and_eq_false_iff, Bool.or_eq_false_iff, decide_eq_true_eq, decide_eq_false_iff_not, Bool.not_eq_true', Bool.not_eq_false', Int.not_lt, Int.not_le] at hl264
    have h265 := hc45.mono (fun hb => (Chg.trans (Chg.trans (Chg.trans (Chg.trans (Chg.trans hx4 hR35) hn38.ext) hx49) hx52) hR261).block _ hb (fun h => h))
    exact ov_loadk (k := 10) Try.isAgg29 Try.sizeOf29 rfl (show _ = (.pointer (some ⟨sb v3, so v3 + 2 * 10, none⟩) : Value) from (Eq.trans e51 (if_pos hb263))) h265 ⟨Chg.refl _ _, (if_pos hb263).symm⟩
  · intro vals w69 hR266 hA
    have hs267 := hR266.size
    have e45 : (vals 45) = (.bool (((((before (ev3.getD 0 default) (ev3.getD 1 default)) && (!(before (ev3.getD 1 default) (ev3.getD 0 default)))) && (apart (ev3.getD 0 default) (ev3.getD 2 default))) && (!(apart (ev3.getD 0 default) (ev3.getD 0 default)))) && (less (ev3.getD 0 default) (ev3.getD 2 default))) : Value) := hA 45 (by decide)
    refine oblc rfl rfl (show _ = (.bool (((((before (ev3.getD 0 default) (ev3.getD 1 default)) && (!(before (ev3.getD 1 default) (ev3.getD 0 default)))) && (apart (ev3.getD 0 default) (ev3.getD 2 default))) && (!(apart (ev3.getD 0 default) (ev3.getD 0 default)))) && (less (ev3.getD 0 default) (ev3.getD 2 default))) : Value) from e45) (fun hb268 => ?_) (fun hb268 => (if_neg hb268).symm)
    have hl269 : (((((before (ev3.getD 0 default) (ev3.getD 1 default)) && (!(before (ev3.getD 1 default) (ev3.getD 0 default)))) && (apart (ev3.getD 0 default) (ev3.getD 2 default))) && (!(apart (ev3.getD 0 default) (ev3.getD 0 default)))) && (less (ev3.getD 0 default) (ev3.getD 2 default))) = true := hb268
    simp only [Bool.and_eq_true, Bool.or_eq_true, Bool.and_eq_false_iff, Bool.or_eq_false_iff, decide_eq_true_eq, decide_eq_false_iff_not, Bool.not_eq_true', Bool.not_eq_false', Int.not_lt, Int.not_le] at hl269
    exact ov_move (v := v3) rfl ⟨Chg.refl _ _, (if_pos hb268).symm⟩
  · intro vals w70 hR270 hA
    have hs271 := hR270.size
    have e45 : (vals 45) = (.bool (((((before (ev3.getD 0 default) (ev3.getD 1 default)) && (!(before (ev3.getD 1 default) (ev3.getD 0 default)))) && (apart (ev3.getD 0 default) (ev3.getD 2 default))) && (!(apart (ev3.getD 0 default) (ev3.getD 0 default)))) && (less (ev3.getD 0 default) (ev3.getD 2 default))) : Value) := hA 45 (by decide)
    have e53 : (vals 53) = (if (((((before (ev3.getD 0 default) (ev3.getD 1 default)) && (!(before (ev3.getD 1 default) (ev3.getD 0 default)))) && (apart (ev3.getD 0 default) (ev3.getD 2 default))) && (!(apart (ev3.getD 0 default) (ev3.getD 0 default)))) && (less (ev3.getD 0 default) (ev3.getD 2 default))) = true then (v3 : Value) else undef) := hA 53 (by decide)
    refine oblc rfl rfl (show _ = (.bool (((((before (ev3.getD 0 default) (ev3.getD 1 default)) && (!(before (ev3.getD 1 default) (ev3.getD 0 default)))) && (apart (ev3.getD 0 default) (ev3.getD 2 default))) && (!(apart (ev3.getD 0 default) (ev3.getD 0 default)))) && (less (ev3.getD 0 default) (ev3.getD 2 default))) : Value) from e45) (fun hb272 => ?_) (fun hb272 => (if_neg hb272).symm)
    have hl273 : (((((before (ev3.getD 0 default) (ev3.getD 1 default)) && (!(before (ev3.getD 1 default) (ev3.getD 0 default)))) && (apart (ev3.getD 0 default) (ev3.getD 2 default))) && (!(apart (ev3.getD 0 default) (ev3.getD 0 default)))) && (less (ev3.getD 0 default) (ev3.getD 2 default))) = true := hb272
    simp only [Bool.and_eq_true, Bool.or_eq_true, Bool.and_eq_false_iff, Bool.or_eq_false_iff, decide_eq_true_eq, decide_eq_false_iff_not, Bool.not_eq_true', Bool.not_eq_false', Int.not_lt, Int.not_le] at hl273
    have hi274 : 1 < ev3.length := by decide
    exact ov_indexAddrN (k := 10) (i := 1) Try.underlying22 Try.sizeOf29 (show _ = (v3 : Value) from (Eq.trans e53 (if_pos hb272))) hr2.sl rfl hi274 ⟨Chg.refl _ _, (if_pos hb272).symm⟩
  · intro vals w71 hR275 hA
    have hs276 := hR275.size
    have e45 : (vals 45) = (.bool (((((before (ev3.getD 0 default) (ev3.getD 1 default)) && (!(before (ev3.getD 1 default) (ev3.getD 0 default)))) && (apart (ev3.getD 0 default) (ev3.getD 2 default))) && (!(apart (ev3.getD 0 default) (ev3.getD 0 default)))) && (less (ev3.getD 0 default) (ev3.getD 2 default))) : Value) := hA 45 (by decide)
    have e54 : (vals 54) = (if (((((before (ev3.getD 0 default) (ev3.getD 1 default)) && (!(before (ev3.getD 1 default) (ev3.getD 0 default)))) && (apart (ev3.getD 0 default) (ev3.getD 2 default))) && (!(apart (ev3.getD 0 default) (ev3.getD 0 default)))) && (less (ev3.getD 0 default) (ev3.getD 2 default))) = true then (.pointer (some ⟨sb v3, so v3 + 1 * 10, none⟩) : Value) else undef) := hA 54 (by decide)
    refine oblc rfl rfl (show _ = (.bool (((((before (ev3.getD 0 default) (ev3.getD 1 default)) && (!(before (ev3.getD 1 default) (ev3.getD 0 default)))) && (apart (ev3.getD 0 default) (ev3.getD 2 default))) && (!(apart (ev3.getD 0 default) (ev3.getD 0 default)))) && (less (ev3.getD 0 default) (ev3.getD 2 default))) : Value) from e45) (fun hb277 => ?_) (fun hb277 => (if_neg hb277).symm)
    have hl278 : (((((before (ev3.getD 0 default) (ev3.getD 1 default)) && (!(before (ev3.getD 1 default) (ev3.getD 0 default)))) && (apart (ev3.getD 0 default) (ev3.getD 2 default))) && (!(apart (ev3.getD 0 default) (ev3.getD 0 default)))) && (less (ev3.getD 0 default) (ev3.getD 2 default))) = true := hb277
    simp only [Bool.and_eq_true, Bool.or_eq_true, Bool.and_eq_false_iff, Bool.or_eq_false_iff, decide_eq_true_eq, decide_eq_false_iff_not, Bool.not_eq_true', Bool.not_eq_false', Int.not_lt, Int.not_le] at hl278
    have h279 := hc43.mono (fun hb => (Chg.trans (Chg.trans (Chg.trans (Chg.trans (Chg.trans hx4 hR35) hn38.ext) hx49) hx52) hR275).block _ hb (fun h => h))
    exact ov_loadk (k := 10) Try.isAgg29 Try.sizeOf29 rfl (show _ = (.pointer (some ⟨sb v3, so v3 + 1 * 10, none⟩) : Value) from (Eq.trans e54 (if_pos hb277))) h279 ⟨Chg.refl _ _, (if_pos hb277).symm⟩
  · intro vals w72 hR280 hA
    have hs281 := hR280.size
    have e45 : (vals 45) = (.bool (((((before (ev3.getD 0 default) (ev3.getD 1 default)) && (!(before (ev3.getD 1 default) (ev3.getD 0 default)))) && (apart (ev3.getD 0 default) (ev3.getD 2 default))) && (!(apart (ev3.getD 0 default) (ev3.getD 0 default)))) && (less (ev3.getD 0 default) (ev3.getD 2 default))) : Value) := hA 45 (by decide)
    have e49 : (vals 49) = (if (((((before (ev3.getD 0 default) (ev3.getD 1 default)) && (!(before (ev3.getD 1 default) (ev3.getD 0 default)))) && (apart (ev3.getD 0 default) (ev3.getD 2 default))) && (!(apart (ev3.getD 0 default) (ev3.getD 0 default)))) && (less (ev3.getD 0 default) (ev3.getD 2 default))) = true then (.agg ((ev3.getD 0 default).cells (cellV w1 (sb v3) (so v3 + 0 * 10 + 3))).toArray : Value) else undef) := hA 49 (by decide)
    have e52 : (vals 52) = (if (((((before (ev3.getD 0 default) (ev3.getD 1 default)) && (!(before (ev3.getD 1 default) (ev3.getD 0 default)))) && (apart (ev3.getD 0 default) (ev3.getD 2 default))) && (!(apart (ev3.getD 0 default) (ev3.getD 0 default)))) && (less (ev3.getD 0 default) (ev3.getD 2 default))) = true then (.agg ((ev3.getD 2 default).cells (cellV w1 (sb v3) (so v3 + 2 * 10 + 3))).toArray : Value) else undef) := hA 52 (by decide)
    have e55 : (vals 55) = (if (((((before (ev3.getD 0 default) (ev3.getD 1 default)) && (!(before (ev3.getD 1 default) (ev3.getD 0 default)))) && (apart (ev3.getD 0 default) (ev3.getD 2 default))) && (!(apart (ev3.getD 0 default) (ev3.getD 0 default)))) && (less (ev3.getD 0 default) (ev3.getD 2 default))) = true then (.agg ((ev3.getD 1 default).cells (cellV w1 (sb v3) (so v3 + 1 * 10 + 3))).toArray : Value) else undef) := hA 55 (by decide)
    refine oblc rfl rfl (show _ = (.bool (((((before (ev3.getD 0 default) (ev3.getD 1 default)) && (!(before (ev3.getD 1 default) (ev3.getD 0 default)))) && (apart (ev3.getD 0 default) (ev3.getD 2 default))) && (!(apart (ev3.getD 0 default) (ev3.getD 0 default)))) && (less (ev3.getD 0 default) (ev3.getD 2 default))) : Value) from e45) (fun hb282 => ?_) (fun hb282 => fun h => absurd h hb282)
    have hl283 : (((((before (ev3.getD 0 default) (ev3.getD 1 default)) && (!(before (ev3.getD 1 default) (ev3.getD 0 default)))) && (apart (ev3.getD 0 default) (ev3.getD 2 default))) && (!(apart (ev3.getD 0 default) (ev3.getD 0 default)))) && (less (ev3.getD 0 default) (ev3.getD 2 default))) = true := hb282
    simp only [Bool.and_eq_true, Bool.or_eq_true, Bool.and_eq_false_iff, Bool.or_eq_false_iff, decide_eq_true_eq, decide_eq_false_iff_not, Bool.not_eq_true', Bool.not_eq_false', Int.not_lt, Int.not_le] at hl283
    have h284 := h48.ext (Chg.trans (Chg.trans hx49 hx52) hR280)
    have h285 := h46.ext (Chg.trans (Chg.trans hx49 hx52) hR280)
    have h286 := h44.ext (Chg.trans (Chg.trans hx49 hx52) hR280)
    exact ov_buildSlice (k := 10) (parts' := [(0, .agg ((ev3.getD 0 default).cells (cellV w1 (sb v3) (so v3 + 0 * 10 + 3))).toArray), (1, .agg ((ev3.getD 2 default).cells (cellV w1 (sb v3) (so v3 + 2 * 10 + 3))).toArray), (2, .agg ((ev3.getD 1 default).cells (cellV w1 (sb v3) (so v3 + 1 * 10 + 3))).toArray)]) (c := ((ev3.getD 0 default).cells (cellV w1 (sb v3) (so v3 + 0 * 10 + 3)) ++ (ev3.getD 2 default).cells (cellV w1 (sb v3) (so v3 + 2 * 10 + 3)) ++ (ev3.getD 1 default).cells (cellV w1 (sb v3) (so v3 + 1 * 10 + 3))).toArray) Try.underlying22 Try.sizeOf29 Try.zeroValue29 (by decide) (mapP ⟨rfl, (show _ = (.agg ((ev3.getD 0 default).cells (cellV w1 (sb v3) (so v3 + 0 * 10 + 3))).toArray : Value) from (Eq.trans e49 (if_pos hb282))), rfl, (show _ = (.agg ((ev3.getD 2 default).cells (cellV w1 (sb v3) (so v3 + 2 * 10 + 3))).toArray : Value) from (Eq.trans e52 (if_pos hb282))), rfl, (show _ = (.agg ((ev3.getD 1 default).cells (cellV w1 (sb v3) (so v3 + 1 * 10 + 3))).toArray : Value) from (Eq.trans e55 (if_pos hb282))), trivial⟩) (by kernel_rfl) (fun _ _ hn => ⟨hn.ext, fun _ => Els.flat_at (α := Ev) (css := [(ev3.getD 0 default).cells (cellV w1 (sb v3) (so v3 + 0 * 10 + 3)), (ev3.getD 2 default).cells (cellV w1 (sb v3) (so v3 + 2 * 10 + 3)), (ev3.getD 1 default).cells (cellV w1 (sb v3) (so v3 + 1 * 10 + 3))]) (l := [(ev3.getD 0 default), (ev3.getD 2 default), (ev3.getD 1 default)]) (F := fun _ => True) ⟨(show Rep.rd _ _ ((ev3.getD 0 default).cells (cellV w1 (sb v3) (so v3 + 0 * 10 + 3))) (ev3.getD 0 default) from ⟨_, rfl, ((h284).weak (fun _ _ _ => trivial)).ext hn.ext, hok47⟩), (show Rep.rd _ _ ((ev3.getD 2 default).cells (cellV w1 (sb v3) (so v3 + 2 * 10 + 3))) (ev3.getD 2 default) from ⟨_, rfl, ((h285).weak (fun _ _ _ => trivial)).ext hn.ext, hok45⟩), (show Rep.rd _ _ ((ev3.getD 1 default).cells (cellV w1 (sb v3) (so v3 + 1 * 10 + 3))) (ev3.getD 1 default) from ⟨_, rfl, ((h286).weak (fun _ _ _ => trivial)).ext hn.ext, hok43⟩), trivial⟩ rfl hn.at_ trivial (by first | decide | (simp only [List.length_cons, List.length_nil]; decide))⟩)
  · intro vals w73 hR287 hA
    have hs288 := hR287.size
    have e45 : (vals 45) = (.bool (((((before (ev3.getD 0 default) (ev3.getD 1 default)) && (!(before (ev3.getD 1 default) (ev3.getD 0 default)))) && (apart (ev3.getD 0 default) (ev3.getD 2 default))) && (!(apart (ev3.getD 0 default) (ev3.getD 0 default)))) && (less (ev3.getD 0 default) (ev3.getD 2 default))) : Value) := hA 45 (by decide)
    have e46 : (vals 46) = (if (((((before (ev3.getD 0 default) (ev3.getD 1 default)) && (!(before (ev3.getD 1 default) (ev3.getD 0 default)))) && (apart (ev3.getD 0 default) (ev3.getD 2 default))) && (!(apart (ev3.getD 0 default) (ev3.getD 0 default)))) && (less (ev3.getD 0 default) (ev3.getD 2 default))) = true then (v51 : Value) else undef) := hA 46 (by decide)
    have e56 : (((((before (ev3.getD 0 default) (ev3.getD 1 default)) && (!(before (ev3.getD 1 default) (ev3.getD 0 default)))) && (apart (ev3.getD 0 default) (ev3.getD 2 default))) && (!(apart (ev3.getD 0 default) (ev3.getD 0 default)))) && (less (ev3.getD 0 default) (ev3.getD 2 default))) = true → RdS (α := Ev) w73 (fun _ => True) (vals 56) ([(ev3.getD 0 default), (ev3.getD 2 default), (ev3.getD 1 default)]) := hA 56 (by decide)
    refine oblc rfl rfl (show _ = (.bool (((((before (ev3.getD 0 default) (ev3.getD 1 default)) && (!(before (ev3.getD 1 default) (ev3.getD 0 default)))) && (apart (ev3.getD 0 default) (ev3.getD 2 default))) && (!(apart (ev3.getD 0 default) (ev3.getD 0 default)))) && (less (ev3.getD 0 default) (ev3.getD 2 default))) : Value) from e45) (fun hb289 => ?_) (fun hb289 => (if_neg hb289).symm)
    have hl290 : (((((before (ev3.getD 0 default) (ev3.getD 1 default)) && (!(before (ev3.getD 1 default) (ev3.getD 0 default)))) && (apart (ev3.getD 0 default) (ev3.getD 2 default))) && (!(apart (ev3.getD 0 default) (ev3.getD 0 default)))) && (less (ev3.getD 0 default) (ev3.getD 2 default))) = true := hb289
    simp only [Bool.and_eq_true, Bool.or_eq_true, Bool.and_eq_false_iff, Bool.or_eq_false_iff, decide_eq_true_eq, decide_eq_false_iff_not, Bool.not_eq_true', Bool.not_eq_false', Int.not_lt, Int.not_le] at hl290
    have h291 := hf50r.ext (Chg.trans hx52 hR287)
    exact ov_call (f := 19) (vals := [v51, (vals 56)]) (cap := []) (show _ = (.func (.func 19) #[] #[] : Value) from rfl) (mapL ⟨(show _ = (v51 : Value) from (Eq.trans e46 (if_pos hb289))), rfl, trivial⟩) Try.call19 (C_SameEvents h291 (e56 hb289)) (fun _ _ h => ⟨h.2, h.1.trans (if_pos hb289).symm⟩)
  · intro vals w74 hR292 hA
    have hs293 := hR292.size
    have e45 : (vals 45) = (.bool (((((before (ev3.getD 0 default) (ev3.getD 1 default)) && (!(before (ev3.getD 1 default) (ev3.getD 0 default)))) && (apart (ev3.getD 0 default) (ev3.getD 2 default))) && (!(apart (ev3.getD 0 default) (ev3.getD 0 default)))) && (less (ev3.getD 0 default) (ev3.getD 2 default))) : Value) := hA 45 (by decide)
    have e57 : (vals 57) = (if (((((before (ev3.getD 0 default) (ev3.getD 1 default)) && (!(before (ev3.getD 1 default) (ev3.getD 0 default)))) && (apart (ev3.getD 0 default) (ev3.getD 2 default))) && (!(apart (ev3.getD 0 default) (ev3.getD 0 default)))) && (less (ev3.getD 0 default) (ev3.getD 2 default))) = true then (.bool (decide ((insFrom 0 ((([(ev3.getD 1 default), (ev3.getD 2 default), (ev3.getD 0 default)])).length - (0 + 1)) (0 + 1) (([(ev3.getD 1 default), (ev3.getD 2 default), (ev3.getD 0 default)]))) = ([(ev3.getD 0 default), (ev3.getD 2 default), (ev3.getD 1 default)]))) : Value) else undef) := hA 57 (by decide)
    refine obl rfl ?_
    exact ov_pick_and (b := ((((before (ev3.getD 0 default) (ev3.getD 1 default)) && (!(before (ev3.getD 1 default) (ev3.getD 0 default)))) && (apart (ev3.getD 0 default) (ev3.getD 2 default))) && (!(apart (ev3.getD 0 default) (ev3.getD 0 default)))) && (less (ev3.getD 0 default) (ev3.getD 2 default))) (b' := decide ((insFrom 0 ((([(ev3.getD 1 default), (ev3.getD 2 default), (ev3.getD 0 default)])).length - (0 + 1)) (0 + 1) (([(ev3.getD 1 default), (ev3.getD 2 default), (ev3.getD 0 default)]))) = ([(ev3.getD 0 default), (ev3.getD 2 default), (ev3.getD 1 default)]))) (show _ = (.bool (((((before (ev3.getD 0 default) (ev3.getD 1 default)) && (!(before (ev3.getD 1 default) (ev3.getD 0 default)))) && (apart (ev3.getD 0 default) (ev3.getD 2 default))) && (!(apart (ev3.getD 0 default) (ev3.getD 0 default)))) && (less (ev3.getD 0 default) (ev3.getD 2 default))) : Value) from e45) (fun hbp => (show _ = (.bool (decide ((insFrom 0 ((([(ev3.getD 1 default), (ev3.getD 2 default), (ev3.getD 0 default)])).length - (0 + 1)) (0 + 1) (([(ev3.getD 1 default), (ev3.getD 2 default), (ev3.getD 0 default)]))) = ([(ev3.getD 0 default), (ev3.getD 2 default), (ev3.getD 1 default)]))) : Value) from (Eq.trans e57 (if_pos hbp)))) ⟨Chg.refl _ _, rfl⟩
  · intro vals w75 hR294 hA
    have hs295 := hR294.size
    have e58 : (vals 58) = (.bool ((((((before (ev3.getD 0 default) (ev3.getD 1 default)) && (!(before (ev3.getD 1 default) (ev3.getD 0 default)))) && (apart (ev3.getD 0 default) (ev3.getD 2 default))) && (!(apart (ev3.getD 0 default) (ev3.getD 0 default)))) && (less (ev3.getD 0 default) (ev3.getD 2 default))) && (decide ((insFrom 0 ((([(ev3.getD 1 default), (ev3.getD 2 default), (ev3.getD 0 default)])).length - (0 + 1)) (0 + 1) (([(ev3.getD 1 default), (ev3.getD 2 default), (ev3.getD 0 default)]))) = ([(ev3.getD 0 default), (ev3.getD 2 default), (ev3.getD 1 default)])))) : Value) := hA 58 (by decide)
    refine obl rfl ?_
    exact ov_assign (v := .bool ((((((before (ev3.getD 0 default) (ev3.getD 1 default)) && (!(before (ev3.getD 1 default) (ev3.getD 0 default)))) && (apart (ev3.getD 0 default) (ev3.getD 2 default))) && (!(apart (ev3.getD 0 default) (ev3.getD 0 default)))) && (less (ev3.getD 0 default) (ev3.getD 2 default))) && (decide ((insFrom 0 ((([(ev3.getD 1 default), (ev3.getD 2 default), (ev3.getD 0 default)])).length - (0 + 1)) (0 + 1) (([(ev3.getD 1 default), (ev3.getD 2 default), (ev3.getD 0 default)]))) = ([(ev3.getD 0 default), (ev3.getD 2 default), (ev3.getD 1 default)]))))) (show _ = (.bool ((((((before (ev3.getD 0 default) (ev3.getD 1 default)) && (!(before (ev3.getD 1 default) (ev3.getD 0 default)))) && (apart (ev3.getD 0 default) (ev3.getD 2 default))) && (!(apart (ev3.getD 0 default) (ev3.getD 0 default)))) && (less (ev3.getD 0 default) (ev3.getD 2 default))) && (decide ((insFrom 0 ((([(ev3.getD 1 default), (ev3.getD 2 default), (ev3.getD 0 default)])).length - (0 + 1)) (0 + 1) (([(ev3.getD 1 default), (ev3.getD 2 default), (ev3.getD 0 default)]))) = ([(ev3.getD 0 default), (ev3.getD 2 default), (ev3.getD 1 default)])))) : Value) from e58) ⟨Chg.refl _ _, rfl⟩
  intro vals w76 hR296 hA
  have hs297 := hR296.size
  have hs298 := hx52.size
  have e59 : (vals 59) = (.bool ((((((before (ev3.getD 0 default) (ev3.getD 1 default)) && (!(before (ev3.getD 1 default) (ev3.getD 0 default)))) && (apart (ev3.getD 0 default) (ev3.getD 2 default))) && (!(apart (ev3.getD 0 default) (ev3.getD 0 default)))) && (less (ev3.getD 0 default) (ev3.getD 2 default))) && (decide ((insFrom 0 ((([(ev3.getD 1 default), (ev3.getD 2 default), (ev3.getD 0 default)])).length - (0 + 1)) (0 + 1) (([(ev3.getD 1 default), (ev3.getD 2 default), (ev3.getD 0 default)]))) = ([(ev3.getD 0 default), (ev3.getD 2 default), (ev3.getD 1 default)])))) : Value) := hA 59 (by decide)
  refine st_env (kv := [(0, .bool ((((((before (ev3.getD 0 default) (ev3.getD 1 default)) && (!(before (ev3.getD 1 default) (ev3.getD 0 default)))) && (apart (ev3.getD 0 default) (ev3.getD 2 default))) && (!(apart (ev3.getD 0 default) (ev3.getD 0 default)))) && (less (ev3.getD 0 default) (ev3.getD 2 default))) && (decide ((insFrom 0 ((([(ev3.getD 1 default), (ev3.getD 2 default), (ev3.getD 0 default)])).length - (0 + 1)) (0 + 1) (([(ev3.getD 1 default), (ev3.getD 2 default), (ev3.getD 0 default)]))) = ([(ev3.getD 0 default), (ev3.getD 2 default), (ev3.getD 1 default)]))))), (3, v3), (1, v3), (6, .agg ((ev3.getD 1 default).cells (cellV w1 (sb v3) (so v3 + 1 * 10 + 3))).toArray), (9, .agg ((ev3.getD 2 default).cells (cellV w1 (sb v3) (so v3 + 2 * 10 + 3))).toArray), (12, .agg ((ev3.getD 0 default).cells (cellV w1 (sb v3) (so v3 + 0 * 10 + 3))).toArray), (13, (.slice (some ⟨b39, 0, none⟩) 3 3)), (14, v51), (2, v51)]) ⟨e59, rfl, rfl, rfl, rfl, rfl, rfl, rfl, rfl, trivial⟩ (fun ρ76 => ?_)
  clear e59
  clear hA qh1 qh2 qh3 qh4
  refine st_nil ?_
  refine WP_ret ?_
  refine fin1 Try.results10 (show _ = (.bool ((((((before (ev3.getD 0 default) (ev3.getD 1 default)) && (!(before (ev3.getD 1 default) (ev3.getD 0 default)))) && (apart (ev3.getD 0 default) (ev3.getD 2 default))) && (!(apart (ev3.getD 0 default) (ev3.getD 0 default)))) && (less (ev3.getD 0 default) (ev3.getD 2 default))) && (decide ((insFrom 0 ((([(ev3.getD 1 default), (ev3.getD 2 default), (ev3.getD 0 default)])).length - (0 + 1)) (0 + 1) (([(ev3.getD 1 default), (ev3.getD 2 default), (ev3.getD 0 default)]))) = ([(ev3.getD 0 default), (ev3.getD 2 default), (ev3.getD 1 default)])))) : Value) from rfl) ?_
  refine ⟨?_, (Chg.trans (Chg.trans (Chg.trans (Chg.trans (Chg.trans (Chg.trans hx1 hx4) hR35) hn38.ext) hx49) hx52) hR296)⟩
  congr 1

end Go.Proofs.Ytbbhpddgjiifmaa
