/- Steps of the proofs of this seat: part P3. -/
import Derived.Test.YtbbpmhfcgoljdaaPlain16
set_option linter.unusedSimpArgs false
set_option linter.unusedVariables false
namespace Go.Proofs.Ytbbpmhfcgoljdaa
open Go.Proofs Go.RowKit

def cmpRow (a b : Row) : Int := if a.group < b.group then -1 else 1
theorem ltRow (a b : Row) : ltOf cmpRow a b = decide (a.group < b.group) := by
  unfold ltOf cmpRow
  by_cases h : a.group < b.group <;> simp [h]
theorem swoRow : Go.Sort.SWO (ltOf cmpRow) where
  irrefl x := by rw [ltRow]; simp
  trans x y z h1 h2 := by rw [ltRow] at *; simp at *; omega
  ntrans x y z h1 h2 := by rw [ltRow] at *; simp at *; omega

theorem C_cmpRow {w : World} {x : Row} {y : Row} : Ret Try.prog 32 [.agg (x.cells).toArray, .agg (y.cells).toArray] w (fun r w' => r = .int .i64 (cmpRow x y) ∧ Ext w w') := by
  refine Calls_of_WP (args := [.agg (x.cells).toArray, .agg (y.cells).toArray]) Try.func32 rfl rfl ?_
  refine WP_seq ?_
  refine WP_region0 (by kernel_rfl) (fun _ => ?_)
  refine st (ov_box (v := .agg (x.cells).toArray) rfl (fun w1 b2 hn1 => ?_))
  have hb3 : w1.heap[b2]? = some (.cells (x.cells).toArray 31) := hn1.at_
  have hs4 := hn1.size; have hs4e := hn1.eq
  refine st (ov_box (v := .agg (y.cells).toArray) rfl (fun w2 b6 hn5 => ?_))
  have hb7 : w2.heap[b6]? = some (.cells (y.cells).toArray 31) := hn5.at_
  have hs8 := hn5.size; have hs8e := hn5.eq
  refine st (ov_assign (v := .int .i64 (0)) rfl ?_)
  refine st_nil ?_
  refine WP_seq ?_
  refine WP_seq ?_
  refine WP_region0 (by kernel_rfl) (fun _ => ?_)
  refine st (fa31_0 rfl ?_)
  have h9 := hn5.ext.keep hb3 (fun h => h)
  refine st (ov_load1 (v := .int .i64 (x.group)) Try.isAgg3 rfl (blk_cellL h9 rfl) ?_)
  refine st (fa31_0 rfl ?_)
  refine st (ov_load1 (v := .int .i64 (y.group)) Try.isAgg3 rfl (blk_cellL hb7 rfl) ?_)
  refine st (ov_lss (k := .i64) (a := x.group) (b := y.group) rfl rfl ?_)
  refine st_nil ?_
  cases hc10 : decide (x.group < y.group)
  · skip
    have hc10 := of_decide_eq_false hc10
    refine WP_cond_f rfl ?_
    refine WP_skip ?_
    refine WP_seq ?_
    refine WP_region0 (by kernel_rfl) (fun _ => ?_)
    refine st (ov_assign (v := .int .i64 (1)) rfl ?_)
    refine st_nil ?_
    refine WP_ret ?_
    refine fin1 Try.results32 (show _ = (.int .i64 (1) : Value) from rfl) ?_
    refine ⟨?_, (Chg.trans hn1.ext hn5.ext)⟩
    unfold cmpRow
    (repeat (first | rw [if_pos (by omega)] | rw [if_neg (by omega)]))
  · skip
    have hc10 := of_decide_eq_true hc10
    refine WP_cond_t rfl ?_
    refine WP_seq ?_
    refine WP_region0 (by kernel_rfl) (fun _ => ?_)
    refine st (ov_assign (v := .int .i64 (-1)) rfl ?_)
    refine st_nil ?_
    refine WP_ret ?_
    refine fin1 Try.results32 (show _ = (.int .i64 (-1) : Value) from rfl) ?_
    refine ⟨?_, (Chg.trans hn1.ext hn5.ext)⟩
    unfold cmpRow
    (repeat (first | rw [if_pos (by omega)] | rw [if_neg (by omega)]))

theorem row_one (x : Row) : ∀ u ∈ x.cells, u.oneCell' = true := all1 ⟨rfl, rfl, rfl, trivial⟩
theorem C_sortRows {lo : Nat} {w : World} {v : Value} {l : List Row} (ho : OwnS 31 lo w (fun _ => False) v l) : Ret Try.prog 31 [v, .func (.func 32) #[] #[]] w (fun r w' => r = .tuple #[] ∧ Chg (fun b => v.ownBlock = some b) w w' ∧ ∃ l', List.Perm l' l ∧ l'.Pairwise (fun a b => ltOf cmpRow b a = false) ∧ OwnS 31 lo w' (fun _ => False) v l') := by
  have hs : l.length * 24 ≤ 140737488355328 := ho.small
  exact own_sorted (α := Row) sortRow Try.isAgg31 Try.sizeOf31 (enc := fun q => q.cells) (fun _ _ _ _ h => h.1) (fun _ => rfl) row_one swoRow (g := 32) (cap := []) Try.call32 ho (fun W x y => C_cmpRow) (fun _ _ _ _ h => h) (by omega)

theorem C_List {w : World} {a m : Nat} {p : Prj} (ha : w.heap[a]? = some (.cells #[.int .i64 (p.ptyp), .int .i64 (p.pfield), .int .i64 (p.pgroup), .int .i64 (p.pby), .int .i64 (p.pmake), .map (some m)] 58)) (op : p.Ok) {L : List (Int × Row)} (hm : MapR w (fun _ => False) m L) (ham : a ≠ m) (hgrp : ∀ q ∈ L, q.1 = q.2.group) (hLs : L.length ≤ 1000000) : Ret Try.prog 23 [.pointer (some ⟨a, 0, none⟩)] w (fun r w' => Ext w w' ∧ Fresh 31 w.heap.size w' r (srtR (L.map (·.2)))) := by
  have hml := hm.lt
  have hal := blk_lt ha
  refine Calls_of_WP (args := [.pointer (some ⟨a, 0, none⟩)]) Try.func23 rfl rfl ?_
  refine WP_seq ?_
  refine WP_region0 (by kernel_rfl) (fun _ => ?_)
  refine st (ov_assign (v := (.slice none 0 0)) rfl ?_)
  refine st_nil ?_
  refine WP_seq ?_
  refine WP_region0 (by kernel_rfl) (fun _ => ?_)
  refine st (ov_assign (v := (.slice none 0 0)) rfl ?_)
  refine st_nil ?_
  refine WP_seq ?_
  refine WP_seq ?_
  refine WP_region0 (by kernel_rfl) (fun _ => ?_)
  refine st (ov_move (v := .pointer (some ⟨a, 0, none⟩)) rfl ?_)
  refine st (ov_nilCheck (b := a) (o := 0) rfl ?_)
  refine st (fa58_1 rfl ?_)
  refine st (ov_load1 (v := .map (some m)) Try.isAgg56 rfl (blk_cellL ha rfl) ?_)
  refine st (ov_range (α := Row) Try.underlying56 rfl hm ?_)
  rintro w1 it1 hx2 he3 hl4 hit5
  have hx2s := hx2.size
  refine st_nil ?_
  refine WP_block ?_
  refine WP_loop (fun mq σ wq => ∃ (idx : List Nat) (vo : Value) (ρ : Env), mq = L.length - idx.length ∧ σ = setAll ρ [(3, vo), (10, .pointer (some ⟨it1, 0, none⟩))] ∧ (Ext w wq) ∧ (IterR wq it1 m L (fun _ => False) idx) ∧ (OwnS 31 (it1 + 1) wq (fun _ => False) vo (pick L idx)) ∧ (it1 < wq.heap.size)) ⟨[], (.slice none 0 0), _, rfl, setAll_self ⟨rfl, rfl, trivial⟩, hx2, hit5, OwnS.nil _ _ _ _ (fun _ h => h.elim), by omega⟩ ?_
  rintro m6 σ7 w2 ⟨idx, vo, ρ2, rfl, rfl, hxL, hitL, hoL, hszL⟩
  have hxLs := hxL.size
  have hpl : (pick L idx).length = idx.length := by simp [pick]
  refine WP_seq ?_
  refine WP_region0 (by kernel_rfl) (fun _ => ?_)
  refine st (ov_next rfl hitL (fun h => h) (by omega) ?_ ?_)
  · intro hperm8
    refine st (ov_extract (vs := [.bool false]) (i := 0) (v := .bool false) rfl rfl ?_)
    refine st_nil ?_
    refine WP_seq ?_
    refine WP_cond_f rfl ?_
    refine WP_exit ?_
    refine blk_exit ?_
    refine WP_seq ?_
    refine WP_region0 (by kernel_rfl) (fun _ => ?_)
    refine st (ov_move (v := vo) rfl ?_)
    refine st (ov_call (f := 31) (vals := [vo, .func (.func 32) #[] #[]]) (cap := []) (show _ = (.func (.func 31) #[] #[] : Value) from rfl) rfl Try.call31 (C_sortRows hoL) ?_)
    rintro _ w3 ⟨rfl, hch15, l19, hp16, hs17, ho18⟩
    have hch15s := hch15.size
    refine st_nil ?_
    refine WP_seq ?_
    refine WP_region0 (by kernel_rfl) (fun _ => ?_)
    refine st (ov_move (v := vo) rfl ?_)
    refine st (ov_assign (v := vo) rfl ?_)
    refine st_nil ?_
    refine WP_ret ?_
    refine fin1 Try.results23 (show _ = (vo : Value) from rfl) ?_
    have hl := srtR_unique hgrp hm.nodup (hp16.trans (pick_perm hperm8)) (hs17.imp (fun {a b} h => by rw [ltRow] at h; simpa using h))
    subst hl
    exact ⟨(Chg.new hxL hch15 (fun i hi hO => by have := (hoL.lt i hO).1; omega)), (show Fresh 31 (it1 + 1) _ _ _ from ⟨_, ho18, fun _ h => h.elim⟩).low (by omega)⟩
  · rintro w4 j9 hj10 hj11 hj12 hit13 hch14 u v
    have hch14s := hch14.size
    refine st (ov_extract (vs := [.bool true, u, v]) (i := 0) (v := .bool true) rfl rfl ?_)
    refine st_nil ?_
    refine WP_seq ?_
    refine WP_cond_t rfl ?_
    refine WP_skip ?_
    refine WP_block ?_
    refine WP_seq ?_
    refine WP_region0 (by kernel_rfl) (fun _ => ?_)
    refine st (ov_entry rfl hit13 ?_)
    rintro hj20 _ ⟨rfl, ok21⟩ hr22
    refine st (ov_extract (vs := [.int .i64 (L[j9].1), .agg ((L[j9].2).cells).toArray]) (i := 1) (v := .agg ((L[j9].2).cells).toArray) rfl rfl ?_)
    refine st (ov_alloc Try.zeroValue31 (fun w5 b24 hn23 => ?_))
    have hb25 : w5.heap[b24]? = some (.cells #[.int .i64 (0), .int .i64 (0), .int .i64 (0)] 31) := hn23.at_
    have hs26 := hn23.size; have hs26e := hn23.eq
    refine stn (ov_store (v := .agg ((L[j9].2).cells).toArray) (c' := ((L[j9].2).cells).toArray) Try.sizeOf31 rfl rfl hb25 (all1 ⟨rfl, rfl, rfl, trivial⟩) (Nat.le_of_ble_eq_true rfl) rfl (fun w6 hp27 => ?_))
    have hs28 := hp27.size
    refine st_nil ?_
    refine WP_region0 (by kernel_rfl) (fun _ => ?_)
    refine st (ov_move (v := vo) rfl ?_)
    refine st (ov_loadk (k := 3) Try.isAgg31 Try.sizeOf31 rfl rfl (CellsAt.all hp27.at_) ?_)
    refine st (ov_buildSlice (k := 3) (parts' := [(0, .agg ((L[j9].2).cells).toArray)]) (c := ((L[j9].2).cells).toArray) Try.underlying28 Try.sizeOf31 Try.zeroValue31 (by decide) rfl (by kernel_rfl) (fun w7 b30 hn29 => ?_))
    have hb31 : w7.heap[b30]? = some (.cells ((L[j9].2).cells).toArray 31) := hn29.at_
    have hs32 := hn29.size; have hs32e := hn29.eq
    have h36 := (OwnS.ext (OwnS.chg (OwnS.ext (OwnS.chg hoL hch14 (fun b hb hO => by have h1 := hoL.lt b hb; have hO : b = it1 := hO; omega) (fun _ h => h.elim)) hn23.ext) hp27.chg (fun b hb hO => by have h1 := hoL.lt b hb; have hO : b = b24 := hO; omega) (fun _ h => h.elim)) hn29.ext)
    refine st (ov_append1 (bytes := 24) (x1 := (L[j9].2)) (F' := (fun _ => False)) elem28 rfl h36 rfl hb31 (G := fun _ => False) (show Rep.rd _ _ _ _ from ⟨rfl, ok21⟩) (fun _ h => h) (fun _ _ h => h) h36.apart h36.bound (by omega) (by first | omega | (simp only [List.length_take, List.length_drop, List.length_nil, List.length_append, List.length_cons]; omega)) rfl (fun v33 w8 ho34 hch35 => ?_))
    have hla37 : (pick L idx ++ [(L[j9].2)]).length = (pick L idx).length + 1 := by simp only [List.length_append, List.length_cons, List.length_nil]
    have hs38 := hch35.size
    refine st (ov_assign (v := v33) rfl ?_)
    refine st_nil ?_
    have h39 := (IterR.chg (IterR.ext (IterR.chg (IterR.ext hit13 hn23.ext) hp27.chg (fun e => by have e : it1 = b24 := e; omega) (fun e => by have e : m = b24 := e; omega) (fun _ h => h.elim)) hn29.ext) hch35 (fun hO => by have := (h36.lt _ hO).1; omega) (fun hO => by have := (h36.lt _ hO).1; omega) (fun _ h => h.elim))
    exact ⟨_, by simp only [List.length_append, List.length_cons, List.length_nil]; omega, idx ++ [j9], v33, _, rfl, setAll_self ⟨rfl, rfl, trivial⟩, (Chg.new (Chg.trans (Chg.new (Chg.trans (Chg.new hxL hch14 (fun i hi hO => by have hO : i = it1 := hO; omega)) hn23.ext) hp27.chg (fun i hi hO => by subst hO; omega)) hn29.ext) hch35 (fun i hi hO => by have := (h36.lt i hO).1; omega)), h39, (by rw [pick_app (by assumption)]; exact ho34), by omega⟩

end Go.Proofs.Ytbbpmhfcgoljdaa
