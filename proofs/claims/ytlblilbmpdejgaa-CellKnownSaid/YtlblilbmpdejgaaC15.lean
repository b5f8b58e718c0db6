/- Steps of the proofs of this seat: part C15. -/
import Derived.Test.YtlblilbmpdejgaaC14
set_option linter.unusedSimpArgs false
set_option linter.unusedVariables false
namespace Go.Proofs.Ytlblilbmpdejgaa
open Go.Proofs Go.RowKit

theorem cel_ext {a b : Cel} (h1 : a.n = b.n) (h2 : a.set = b.set) : a = b := by cases a; cases b; simp_all
theorem mem_getD {l : List Int} {k : Nat} {n : Int} (hk : k < l.length) (h : l.getD k 0 = n) : n ∈ l := by rw [getD_at _ hk] at h; rw [← h]; exact List.getElem_mem hk
theorem not_mem_getD {l : List Int} {n : Int} (h : ∀ i, i < l.length → ¬ l.getD i 0 = n) : ¬ n ∈ l := by
  intro hm
  obtain ⟨i, hi, e⟩ := List.getElem_of_mem hm
  exact h i hi (by rw [getD_at _ hi]; exact e)
theorem D_Same {G : Nat → Prop} {W w : World} {Rs : List HP} {va : Value} {a : List Cel} (ha : RdS W G va a) {vb : Value} {b : List Cel} (hb : RdS W G vb b) (hS0 : Sep G W Rs w) : Ret Try.prog 12 [va, vb] w (fun r w' => r = (.bool (decide (a = b)) : Value) ∧ Sep G W Rs w') := by
  have has : a.length * 32 ≤ 140737488355328 := ha.small
  have hbs : b.length * 32 ≤ 140737488355328 := hb.small
  refine Calls_of_WP (args := [va, vb]) Try.func12 rfl rfl ?_
  refine WP_seq ?_
  refine WP_region0 (by kernel_rfl) (fun _ => ?_)
  refine st (ov_assign (v := .bool false) rfl ?_)
  refine st_nil ?_
  refine WP_seq ?_
  refine WP_seq ?_
  refine WP_region0 (by kernel_rfl) (fun _ => ?_)
  refine st (ov_move (v := va) rfl ?_)
  refine st (ov_len (n := a.length) Try.underlying26 rfl ha.sl ?_)
  refine st (ov_move (v := vb) rfl ?_)
  refine st (ov_len (n := b.length) Try.underlying26 rfl hb.sl ?_)
  refine st (ov_neq (k := .i64) (a := ((a.length : Nat) : Int)) (b := ((b.length : Nat) : Int)) rfl rfl ?_)
  refine st_nil ?_
  cases hc1 : !decide (((a.length : Nat) : Int) = ((b.length : Nat) : Int))
  · skip
    have hc1 := ndec_false hc1
    refine WP_cond_f rfl ?_
    refine WP_skip ?_
    refine WP_seq ?_
    refine WP_seq ?_
    refine WP_region0 (by kernel_rfl) (fun _ => ?_)
    refine st (ov_assign (v := .int .i64 (0)) rfl ?_)
    refine st_nil ?_
    refine WP_block ?_
    refine WP_loop (fun mq σ wq => ∃ (k : Nat) (ρ : Env), mq = a.length - k ∧ σ = setAll ρ [(0, va), (1, vb), (5, .int .i64 ((k : Nat) : Int))] ∧ (k ≤ a.length) ∧ (∀ i, i < k → a.getD i default = b.getD i default) ∧ Sep G W Rs wq) ⟨0, _, rfl, setAll_self ⟨rfl, rfl, rfl, trivial⟩, Nat.zero_le _, (fun i h => absurd h (Nat.not_lt_zero i)), hS0⟩ ?_
    rintro m3 σ4 w2 ⟨k, ρl1, rfl, rfl, hkk, hm, hS5⟩
    refine WP_seq ?_
    refine WP_seq ?_
    refine WP_region0 (by kernel_rfl) (fun _ => ?_)
    refine st (ov_move (v := .int .i64 ((k : Nat) : Int)) rfl ?_)
    refine st (ov_move (v := va) rfl ?_)
    refine st (ov_len (n := a.length) Try.underlying26 rfl ha.sl ?_)
    refine st (ov_lss (k := .i64) (a := ((k : Nat) : Int)) (b := ((a.length : Nat) : Int)) rfl rfl ?_)
    refine st_nil ?_
    cases hc6 : decide (((k : Nat) : Int) < ((a.length : Nat) : Int))
    · skip
      have hc6 := of_decide_eq_false hc6
      refine WP_cond_f rfl ?_
      refine WP_exit ?_
      refine blk_exit ?_
      refine WP_seq ?_
      refine WP_region0 (by kernel_rfl) (fun _ => ?_)
      refine st (ov_assign (v := .bool true) rfl ?_)
      refine st_nil ?_
      refine WP_ret ?_
      refine fin1 Try.results12 (show _ = (.bool true : Value) from rfl) ?_
      refine ⟨?_, hS5⟩
      rw [decide_eq_true (ext_getD (by omega) (fun i hi => hm i (by omega)))]
    · skip
      have hc6 := of_decide_eq_true hc6
      refine WP_cond_t rfl ?_
      refine WP_skip ?_
      refine WP_seq ?_
      refine WP_block ?_
      refine WP_seq ?_
      refine WP_draw4 (WF [fun vals wq => Sep G W Rs wq, fun vals wq => (vals 22 = (if (!decide (((a.getD k default).n) = ((b.getD k default).n))) = false then (.bool (decide (((a.getD k default).set) = ((b.getD k default).set))) : Value) else undef)) ∧ Sep G W Rs wq]) (AF [fun vals => vals 0 = (va : Value), fun vals => vals 1 = (.int .i64 ((k : Nat) : Int) : Value), fun vals => vals 2 = (.pointer (some ⟨sb va, so va + k * 2, none⟩) : Value), fun vals => vals 3 = (.pointer (some ⟨sb va, so va + k * 2, none⟩) : Value), fun vals => vals 4 = (.int .i64 ((a.getD k default).n) : Value), fun vals => vals 5 = (vb : Value), fun vals => vals 6 = (.int .i64 ((k : Nat) : Int) : Value), fun vals => vals 7 = (.pointer (some ⟨sb vb, so vb + k * 2, none⟩) : Value), fun vals => vals 8 = (.pointer (some ⟨sb vb, so vb + k * 2, none⟩) : Value), fun vals => vals 9 = (.int .i64 ((b.getD k default).n) : Value), fun vals => vals 10 = (.bool (!decide (((a.getD k default).n) = ((b.getD k default).n))) : Value), fun vals => vals 11 = (.bool (!decide (((a.getD k default).n) = ((b.getD k default).n))) : Value), fun vals => vals 12 = (if (!decide (((a.getD k default).n) = ((b.getD k default).n))) = false then (va : Value) else undef), fun vals => vals 13 = (if (!decide (((a.getD k default).n) = ((b.getD k default).n))) = false then (.int .i64 ((k : Nat) : Int) : Value) else undef), fun vals => vals 14 = (if (!decide (((a.getD k default).n) = ((b.getD k default).n))) = false then (.pointer (some ⟨sb va, so va + k * 2, none⟩) : Value) else undef), fun vals => vals 15 = (if (!decide (((a.getD k default).n) = ((b.getD k default).n))) = false then (.pointer (some ⟨sb va, so va + k * 2 + 1, none⟩) : Value) else undef), fun vals => vals 16 = (if (!decide (((a.getD k default).n) = ((b.getD k default).n))) = false then ((cellV W (sb va) (so va + k * 2 + 1)) : Value) else undef), fun vals => vals 17 = (if (!decide (((a.getD k default).n) = ((b.getD k default).n))) = false then (vb : Value) else undef), fun vals => vals 18 = (if (!decide (((a.getD k default).n) = ((b.getD k default).n))) = false then (.int .i64 ((k : Nat) : Int) : Value) else undef), fun vals => vals 19 = (if (!decide (((a.getD k default).n) = ((b.getD k default).n))) = false then (.pointer (some ⟨sb vb, so vb + k * 2, none⟩) : Value) else undef), fun vals => vals 20 = (if (!decide (((a.getD k default).n) = ((b.getD k default).n))) = false then (.pointer (some ⟨sb vb, so vb + k * 2 + 1, none⟩) : Value) else undef), fun vals => vals 21 = (if (!decide (((a.getD k default).n) = ((b.getD k default).n))) = false then ((cellV W (sb vb) (so vb + k * 2 + 1)) : Value) else undef), fun _ => True, fun vals => vals 23 = (if (!decide (((a.getD k default).n) = ((b.getD k default).n))) = false then (.bool (!(decide (((a.getD k default).set) = ((b.getD k default).set)))) : Value) else undef), fun vals => vals 24 = (.bool ((!decide (((a.getD k default).n) = ((b.getD k default).n))) || (!(decide (((a.getD k default).set) = ((b.getD k default).set))))) : Value)]) [[], [], [0, 1], [0, 1, 2], [0, 1, 2, 3], [], [], [5, 6], [5, 6, 7], [5, 6, 7, 8], [0, 1, 2, 3, 4, 5, 6, 7, 8, 9], [0, 1, 2, 3, 4, 5, 6, 7, 8, 9, 10], [0, 1, 2, 3, 4, 5, 6, 7, 8, 9, 10, 11], [0, 1, 2, 3, 4, 5, 6, 7, 8, 9, 10, 11], [0, 1, 2, 3, 4, 5, 6, 7, 8, 9, 10, 11, 12, 13], [0, 1, 2, 3, 4, 5, 6, 7, 8, 9, 10, 11, 12, 13, 14], [0, 1, 2, 3, 4, 5, 6, 7, 8, 9, 10, 11, 12, 13, 14, 15], [0, 1, 2, 3, 4, 5, 6, 7, 8, 9, 10, 11], [0, 1, 2, 3, 4, 5, 6, 7, 8, 9, 10, 11], [0, 1, 2, 3, 4, 5, 6, 7, 8, 9, 10, 11, 17, 18], [0, 1, 2, 3, 4, 5, 6, 7, 8, 9, 10, 11, 17, 18, 19], [0, 1, 2, 3, 4, 5, 6, 7, 8, 9, 10, 11, 17, 18, 19, 20], [0, 1, 2, 3, 4, 5, 6, 7, 8, 9, 10, 11, 12, 13, 14, 15, 16, 17, 18, 19, 20, 21], [0, 1, 2, 3, 4, 5, 6, 7, 8, 9, 10, 11, 12, 13, 14, 15, 16, 17, 18, 19, 20, 21, 22], [0, 1, 2, 3, 4, 5, 6, 7, 8, 9, 10, 11, 12, 13, 14, 15, 16, 17, 18, 19, 20, 21, 22, 23]] [22] [(0, 0), (0, 0), (0, 0), (0, 0), (0, 0), (0, 0), (0, 0), (0, 0), (0, 0), (0, 0), (0, 0), (0, 0), (0, 0), (0, 0), (0, 0), (0, 0), (0, 0), (0, 0), (0, 0), (0, 0), (0, 0), (0, 0), (0, 0), (1, 1), (1, 1)] (by kernel_rfl) (by kernel_rfl) (by kernel_rfl) rfl (by kernel_rfl) (by kernel_rfl) (fun _ h1 h2 h3 h4 _ => hS5.same h1 h2 h3 h4) ?_ ?_ ⟨?_, ?_, ?_, ?_, ?_, ?_, ?_, ?_, ?_, ?_, ?_, ?_, ?_, ?_, ?_, ?_, ?_, ?_, ?_, ?_, ?_, ?_, ?_, ?_, ?_, trivial⟩ ?_
      · intro k vals vals' w hv h
        have e : ∀ j ∈ ([22] : List Nat), vals' j = vals j := hv
        match k, h with
        | 0, h => exact h
        | 1, h => exact (by simpa only [WF, List.getElem?_cons_zero, List.getElem?_cons_succ, e 22 (by decide)] using h)
        | _ + 2, _ => trivial
      · intro i vals vals' hv h
        match i, hv, h with
        | 0, hv, h => exact (hv 0 (.inl rfl)).trans h
        | 1, hv, h => exact (hv 1 (.inl rfl)).trans h
        | 2, hv, h => exact (hv 2 (.inl rfl)).trans h
        | 3, hv, h => exact (hv 3 (.inl rfl)).trans h
        | 4, hv, h => exact (hv 4 (.inl rfl)).trans h
        | 5, hv, h => exact (hv 5 (.inl rfl)).trans h
        | 6, hv, h => exact (hv 6 (.inl rfl)).trans h
        | 7, hv, h => exact (hv 7 (.inl rfl)).trans h
        | 8, hv, h => exact (hv 8 (.inl rfl)).trans h
        | 9, hv, h => exact (hv 9 (.inl rfl)).trans h
        | 10, hv, h => exact (hv 10 (.inl rfl)).trans h
        | 11, hv, h => exact (hv 11 (.inl rfl)).trans h
        | 12, hv, h => exact (hv 12 (.inl rfl)).trans h
        | 13, hv, h => exact (hv 13 (.inl rfl)).trans h
        | 14, hv, h => exact (hv 14 (.inl rfl)).trans h
        | 15, hv, h => exact (hv 15 (.inl rfl)).trans h
        | 16, hv, h => exact (hv 16 (.inl rfl)).trans h
        | 17, hv, h => exact (hv 17 (.inl rfl)).trans h
        | 18, hv, h => exact (hv 18 (.inl rfl)).trans h
        | 19, hv, h => exact (hv 19 (.inl rfl)).trans h
        | 20, hv, h => exact (hv 20 (.inl rfl)).trans h
        | 21, hv, h => exact (hv 21 (.inl rfl)).trans h
        | 22, _, _ => trivial
        | 23, hv, h => exact (hv 23 (.inl rfl)).trans h
        | 24, hv, h => exact (hv 24 (.inl rfl)).trans h
        | _ + 25, _, _ => trivial
      · intro k258 vals w259 h262 h263 hW261 hA260
        refine obl rfl ?_
        exact ov_move (v := va) rfl (fun vals' hv _ => ⟨rfl, hv⟩)
      · intro k264 vals w265 h268 h269 hW267 hA266
        refine obl rfl ?_
        exact ov_move (v := .int .i64 ((k : Nat) : Int)) rfl (fun vals' hv _ => ⟨rfl, hv⟩)
      · intro k270 vals w271 h274 h275 hW273 hA272
        obtain rfl : k270 = 0 := Nat.le_antisymm h275 h274
        have hS276 : Sep G W Rs w271 := hW273
        have e277 : vals 0 = (va : Value) := hA272 0 (by decide)
        have e278 : vals 1 = (.int .i64 ((k : Nat) : Int) : Value) := hA272 1 (by decide)
        refine obl rfl ?_
        have hi279 : k < a.length := (by first | omega | (simp only [lens]; omega))
        exact ov_indexAddrN (k := 2) (i := k) Try.underlying26 Try.sizeOf47 (show _ = (va : Value) from e277) ha.sl (show _ = (.int .i64 ((k : Nat) : Int) : Value) from e278) hi279 (fun vals' hv _ => ⟨rfl, hv⟩)
      · intro k280 vals w281 h284 h285 hW283 hA282
        have e286 : vals 2 = (.pointer (some ⟨sb va, so va + k * 2, none⟩) : Value) := hA282 2 (by decide)
        refine obl rfl ?_
        exact fd47_0 (show _ = (.pointer (some ⟨sb va, so va + k * 2, none⟩) : Value) from e286) (fun vals' hv _ => ⟨rfl, hv⟩)
      · intro k287 vals w288 h291 h292 hW290 hA289
        obtain rfl : k287 = 0 := Nat.le_antisymm h292 h291
        have hS293 : Sep G W Rs w288 := hW290
        have e294 : vals 3 = (.pointer (some ⟨sb va, so va + k * 2, none⟩) : Value) := hA289 3 (by decide)
        refine obl rfl ?_
        have hi296 : k < a.length := (by first | omega | (simp only [lens]; omega))
        obtain ⟨hce295, hde295_0, hoke295⟩ := ha.cel hi296
        rw [← getD_at default hi296] at hce295 hde295_0 hoke295
        have hsm297 : ((a.getD k default).set).length * 8 ≤ 140737488355328 := hde295_0.small
        have hcw298 := hS293.cells hce295 (ha.foot (ne_of_lt hi296))
        exact ov_load1 (v := .int .i64 ((a.getD k default).n)) Try.isAgg3 (show _ = (.pointer (some ⟨sb va, so va + k * 2, none⟩) : Value) from e294) (hcw298.get (j := 0) rfl) (fun vals' hv _ => ⟨rfl, hv⟩)
      · intro k299 vals w300 h303 h304 hW302 hA301
        refine obl rfl ?_
        exact ov_move (v := vb) rfl (fun vals' hv _ => ⟨rfl, hv⟩)
      · intro k305 vals w306 h309 h310 hW308 hA307
        refine obl rfl ?_
        exact ov_move (v := .int .i64 ((k : Nat) : Int)) rfl (fun vals' hv _ => ⟨rfl, hv⟩)
      · intro k311 vals w312 h315 h316 hW314 hA313
        obtain rfl : k311 = 0 := Nat.le_antisymm h316 h315
        have hS317 : Sep G W Rs w312 := hW314
        have e318 : vals 5 = (vb : Value) := hA313 5 (by decide)
        have e319 : vals 6 = (.int .i64 ((k : Nat) : Int) : Value) := hA313 6 (by decide)
        refine obl rfl ?_
        have hi320 : k < b.length := (by first | omega | (simp only [lens]; omega))
        exact ov_indexAddrN (k := 2) (i := k) Try.underlying26 Try.sizeOf47 (show _ = (vb : Value) from e318) hb.sl (show _ = (.int .i64 ((k : Nat) : Int) : Value) from e319) hi320 (fun vals' hv _ => ⟨rfl, hv⟩)
      · intro k321 vals w322 h325 h326 hW324 hA323
        have e327 : vals 7 = (.pointer (some ⟨sb vb, so vb + k * 2, none⟩) : Value) := hA323 7 (by decide)
        refine obl rfl ?_
        exact fd47_0 (show _ = (.pointer (some ⟨sb vb, so vb + k * 2, none⟩) : Value) from e327) (fun vals' hv _ => ⟨rfl, hv⟩)
      · intro k328 vals w329 h332 h333 hW331 hA330
        obtain rfl : k328 = 0 := Nat.le_antisymm h333 h332
        have hS334 : Sep G W Rs w329 := hW331
        have e335 : vals 8 = (.pointer (some ⟨sb vb, so vb + k * 2, none⟩) : Value) := hA330 8 (by decide)
        refine obl rfl ?_
        have hi337 : k < b.length := (by first | omega | (simp only [lens]; omega))
        obtain ⟨hce336, hde336_0, hoke336⟩ := hb.cel hi337
        rw [← getD_at default hi337] at hce336 hde336_0 hoke336
        have hsm338 : ((b.getD k default).set).length * 8 ≤ 140737488355328 := hde336_0.small
        have hcw339 := hS334.cells hce336 (hb.foot (ne_of_lt hi337))
        exact ov_load1 (v := .int .i64 ((b.getD k default).n)) Try.isAgg3 (show _ = (.pointer (some ⟨sb vb, so vb + k * 2, none⟩) : Value) from e335) (hcw339.get (j := 0) rfl) (fun vals' hv _ => ⟨rfl, hv⟩)
      · intro k340 vals w341 h344 h345 hW343 hA342
        obtain rfl : k340 = 0 := Nat.le_antisymm h345 h344
        have hS346 : Sep G W Rs w341 := hW343
        have e347 : vals 4 = (.int .i64 ((a.getD k default).n) : Value) := hA342 4 (by decide)
        have e348 : vals 9 = (.int .i64 ((b.getD k default).n) : Value) := hA342 9 (by decide)
        refine obl rfl ?_
        exact ov_neq (k := .i64) (a := (a.getD k default).n) (b := (b.getD k default).n) (show _ = (.int .i64 ((a.getD k default).n) : Value) from e347) (show _ = (.int .i64 ((b.getD k default).n) : Value) from e348) (fun vals' hv _ => ⟨rfl, hv⟩)
      · intro k349 vals w350 h353 h354 hW352 hA351
        have e355 : vals 10 = (.bool (!decide (((a.getD k default).n) = ((b.getD k default).n))) : Value) := hA351 10 (by decide)
        refine obl rfl ?_
        exact ov_move (v := .bool (!decide (((a.getD k default).n) = ((b.getD k default).n)))) (show _ = (.bool (!decide (((a.getD k default).n) = ((b.getD k default).n))) : Value) from e355) (fun vals' hv _ => ⟨rfl, hv⟩)
      · intro k356 vals w357 h360 h361 hW359 hA358
        have e362 : vals 11 = (.bool (!decide (((a.getD k default).n) = ((b.getD k default).n))) : Value) := hA358 11 (by decide)
        refine oblc rfl rfl (show _ = (.bool (!decide (((a.getD k default).n) = ((b.getD k default).n))) : Value) from e362) (fun hb363 => ?_) (fun hb363 => fun vals' hv _ => ⟨trivial, hv.trans (if_neg hb363).symm⟩)
        have hl364 : (!decide (((a.getD k default).n) = ((b.getD k default).n))) = false := hb363
        have hl364 := ndec_false hl364
        exact ov_move (v := va) rfl (fun vals' hv _ => ⟨rfl, hv.trans (if_pos hb363).symm⟩)
      · intro k365 vals w366 h369 h370 hW368 hA367
        have e371 : vals 11 = (.bool (!decide (((a.getD k default).n) = ((b.getD k default).n))) : Value) := hA367 11 (by decide)
        refine oblc rfl rfl (show _ = (.bool (!decide (((a.getD k default).n) = ((b.getD k default).n))) : Value) from e371) (fun hb372 => ?_) (fun hb372 => fun vals' hv _ => ⟨trivial, hv.trans (if_neg hb372).symm⟩)
        have hl373 : (!decide (((a.getD k default).n) = ((b.getD k default).n))) = false := hb372
        have hl373 := ndec_false hl373
        exact ov_move (v := .int .i64 ((k : Nat) : Int)) rfl (fun vals' hv _ => ⟨rfl, hv.trans (if_pos hb372).symm⟩)
      · intro k374 vals w375 h378 h379 hW377 hA376
        obtain rfl : k374 = 0 := Nat.le_antisymm h379 h378
        have hS380 : Sep G W Rs w375 := hW377
        have e381 : vals 11 = (.bool (!decide (((a.getD k default).n) = ((b.getD k default).n))) : Value) := hA376 11 (by decide)
        have e382 : vals 12 = (if (!decide (((a.getD k default).n) = ((b.getD k default).n))) = false then (va : Value) else undef) := hA376 12 (by decide)
        have e383 : vals 13 = (if (!decide (((a.getD k default).n) = ((b.getD k default).n))) = false then (.int .i64 ((k : Nat) : Int) : Value) else undef) := hA376 13 (by decide)
        refine oblc rfl rfl (show _ = (.bool (!decide (((a.getD k default).n) = ((b.getD k default).n))) : Value) from e381) (fun hb384 => ?_) (fun hb384 => fun vals' hv _ => ⟨trivial, hv.trans (if_neg hb384).symm⟩)
        have hl385 : (!decide (((a.getD k default).n) = ((b.getD k default).n))) = false := hb384
        have hl385 := ndec_false hl385
        have hi386 : k < a.length := (by first | omega | (simp only [lens]; omega))
        exact ov_indexAddrN (k := 2) (i := k) Try.underlying26 Try.sizeOf47 (show _ = (va : Value) from (Eq.trans e382 (if_pos hb384))) ha.sl (show _ = (.int .i64 ((k : Nat) : Int) : Value) from (Eq.trans e383 (if_pos hb384))) hi386 (fun vals' hv _ => ⟨rfl, hv.trans (if_pos hb384).symm⟩)
      · intro k387 vals w388 h391 h392 hW390 hA389
        have e393 : vals 11 = (.bool (!decide (((a.getD k default).n) = ((b.getD k default).n))) : Value) := hA389 11 (by decide)
        have e394 : vals 14 = (if (!decide (((a.getD k default).n) = ((b.getD k default).n))) = false then (.pointer (some ⟨sb va, so va + k * 2, none⟩) : Value) else undef) := hA389 14 (by decide)
        refine oblc rfl rfl (show _ = (.bool (!decide (((a.getD k default).n) = ((b.getD k default).n))) : Value) from e393) (fun hb395 => ?_) (fun hb395 => fun vals' hv _ => ⟨trivial, hv.trans (if_neg hb395).symm⟩)
        have hl396 : (!decide (((a.getD k default).n) = ((b.getD k default).n))) = false := hb395
        have hl396 := ndec_false hl396
        exact fd47_1 (show _ = (.pointer (some ⟨sb va, so va + k * 2, none⟩) : Value) from (Eq.trans e394 (if_pos hb395))) (fun vals' hv _ => ⟨rfl, hv.trans (if_pos hb395).symm⟩)
      · intro k397 vals w398 h401 h402 hW400 hA399
        obtain rfl : k397 = 0 := Nat.le_antisymm h402 h401
        have hS403 : Sep G W Rs w398 := hW400
        have e404 : vals 11 = (.bool (!decide (((a.getD k default).n) = ((b.getD k default).n))) : Value) := hA399 11 (by decide)
        have e405 : vals 15 = (if (!decide (((a.getD k default).n) = ((b.getD k default).n))) = false then (.pointer (some ⟨sb va, so va + k * 2 + 1, none⟩) : Value) else undef) := hA399 15 (by decide)
        refine oblc rfl rfl (show _ = (.bool (!decide (((a.getD k default).n) = ((b.getD k default).n))) : Value) from e404) (fun hb406 => ?_) (fun hb406 => fun vals' hv _ => ⟨trivial, hv.trans (if_neg hb406).symm⟩)
        have hl407 : (!decide (((a.getD k default).n) = ((b.getD k default).n))) = false := hb406
        have hl407 := ndec_false hl407
        have hi409 : k < a.length := (by first | omega | (simp only [lens]; omega))
        obtain ⟨hce408, hde408_0, hoke408⟩ := ha.cel hi409
        rw [← getD_at default hi409] at hce408 hde408_0 hoke408
        have hsm410 : ((a.getD k default).set).length * 8 ≤ 140737488355328 := hde408_0.small
        have hcw411 := hS403.cells hce408 (ha.foot (ne_of_lt hi409))
        exact ov_load1 (v := (cellV W (sb va) (so va + k * 2 + 1))) Try.isAgg44 (show _ = (.pointer (some ⟨sb va, so va + k * 2 + 1, none⟩) : Value) from (Eq.trans e405 (if_pos hb406))) (hcw411.get (j := 1) rfl) (fun vals' hv _ => ⟨rfl, hv.trans (if_pos hb406).symm⟩)
      · intro k412 vals w413 h416 h417 hW415 hA414
        have e418 : vals 11 = (.bool (!decide (((a.getD k default).n) = ((b.getD k default).n))) : Value) := hA414 11 (by decide)
        refine oblc rfl rfl (show _ = (.bool (!decide (((a.getD k default).n) = ((b.getD k default).n))) : Value) from e418) (fun hb419 => ?_) (fun hb419 => fun vals' hv _ => ⟨trivial, hv.trans (if_neg hb419).symm⟩)
        have hl420 : (!decide (((a.getD k default).n) = ((b.getD k default).n))) = false := hb419
        have hl420 := ndec_false hl420
        exact ov_move (v := vb) rfl (fun vals' hv _ => ⟨rfl, hv.trans (if_pos hb419).symm⟩)
      · intro k421 vals w422 h425 h426 hW424 hA423
        have e427 : vals 11 = (.bool (!decide (((a.getD k default).n) = ((b.getD k default).n))) : Value) := hA423 11 (by decide)
        refine oblc rfl rfl (show _ = (.bool (!decide (((a.getD k default).n) = ((b.getD k default).n))) : Value) from e427) (fun hb428 => ?_) (fun hb428 => fun vals' hv _ => ⟨trivial, hv.trans (if_neg hb428).symm⟩)
        have hl429 : (!decide (((a.getD k default).n) = ((b.getD k default).n))) = false := hb428
        have hl429 := ndec_false hl429
        exact ov_move (v := .int .i64 ((k : Nat) : Int)) rfl (fun vals' hv _ => ⟨rfl, hv.trans (if_pos hb428).symm⟩)
      · intro k430 vals w431 h434 h435 hW433 hA432
        obtain rfl : k430 = 0 := Nat.le_antisymm h435 h434
        have hS436 : Sep G W Rs w431 := hW433
        have e437 : vals 11 = (.bool (!decide (((a.getD k default).n) = ((b.getD k default).n))) : Value) := hA432 11 (by decide)
        have e438 : vals 17 = (if (!decide (((a.getD k default).n) = ((b.getD k default).n))) = false then (vb : Value) else undef) := hA432 17 (by decide)
        have e439 : vals 18 = (if (!decide (((a.getD k default).n) = ((b.getD k default).n))) = false then (.int .i64 ((k : Nat) : Int) : Value) else undef) := hA432 18 (by decide)
        refine oblc rfl rfl (show _ = (.bool (!decide (((a.getD k default).n) = ((b.getD k default).n))) : Value) from e437) (fun hb440 => ?_) (fun hb440 => fun vals' hv _ => ⟨trivial, hv.trans (if_neg hb440).symm⟩)
        have hl441 : (!decide (((a.getD k default).n) = ((b.getD k default).n))) = false := hb440
        have hl441 := ndec_false hl441
        have hi442 : k < b.length := (by first | omega | (simp only [lens]; omega))
        exact ov_indexAddrN (k := 2) (i := k) Try.underlying26 Try.sizeOf47 (show _ = (vb : Value) from (Eq.trans e438 (if_pos hb440))) hb.sl (show _ = (.int .i64 ((k : Nat) : Int) : Value) from (Eq.trans e439 (if_pos hb440))) hi442 (fun vals' hv _ => ⟨rfl, hv.trans (if_pos hb440).symm⟩)
      · intro k443 vals w444 h447 h448 hW446 hA445
        have e449 : vals 11 = (.bool (!decide (((a.getD k default).n) = ((b.getD k default).n))) : Value) := hA445 11 (by decide)
        have e450 : vals 19 = (if (!decide (((a.getD k default).n) = ((b.getD k default).n))) = false then (.pointer (some ⟨sb vb, so vb + k * 2, none⟩) : Value) else undef) := hA445 19 (by decide)
        refine oblc rfl rfl (show _ = (.bool (!decide (((a.getD k default).n) = ((b.getD k default).n))) : Value) from e449) (fun hb451 => ?_) (fun hb451 => fun vals' hv _ => ⟨trivial, hv.trans (if_neg hb451).symm⟩)
        have hl452 : (!decide (((a.getD k default).n) = ((b.getD k default).n))) = false := hb451
        have hl452 := ndec_false hl452
        exact fd47_1 (show _ = (.pointer (some ⟨sb vb, so vb + k * 2, none⟩) : Value) from (Eq.trans e450 (if_pos hb451))) (fun vals' hv _ => ⟨rfl, hv.trans (if_pos hb451).symm⟩)
      · intro k453 vals w454 h457 h458 hW456 hA455
        obtain rfl : k453 = 0 := Nat.le_antisymm h458 h457
        have hS459 : Sep G W Rs w454 := hW456
        have e460 : vals 11 = (.bool (!decide (((a.getD k default).n) = ((b.getD k default).n))) : Value) := hA455 11 (by decide)
        have e461 : vals 20 = (if (!decide (((a.getD k default).n) = ((b.getD k default).n))) = false then (.pointer (some ⟨sb vb, so vb + k * 2 + 1, none⟩) : Value) else undef) := hA455 20 (by decide)
        refine oblc rfl rfl (show _ = (.bool (!decide (((a.getD k default).n) = ((b.getD k default).n))) : Value) from e460) (fun hb462 => ?_) (fun hb462 => fun vals' hv _ => ⟨trivial, hv.trans (if_neg hb462).symm⟩)
        have hl463 : (!decide (((a.getD k default).n) = ((b.getD k default).n))) = false := hb462
        have hl463 := ndec_false hl463
        have hi465 : k < b.length := (by first | omega | (simp only [lens]; omega))
        obtain ⟨hce464, hde464_0, hoke464⟩ := hb.cel hi465
        rw [← getD_at default hi465] at hce464 hde464_0 hoke464
        have hsm466 : ((b.getD k default).set).length * 8 ≤ 140737488355328 := hde464_0.small
        have hcw467 := hS459.cells hce464 (hb.foot (ne_of_lt hi465))
        exact ov_load1 (v := (cellV W (sb vb) (so vb + k * 2 + 1))) Try.isAgg44 (show _ = (.pointer (some ⟨sb vb, so vb + k * 2 + 1, none⟩) : Value) from (Eq.trans e461 (if_pos hb462))) (hcw467.get (j := 1) rfl) (fun vals' hv _ => ⟨rfl, hv.trans (if_pos hb462).symm⟩)
      · intro k217 vals w218 h221 h222 hW220 hA219
        obtain rfl : k217 = 0 := Nat.le_antisymm h222 h221
        have hS223 : Sep G W Rs w218 := hW220
        have e224 : vals 11 = (.bool (!decide (((a.getD k default).n) = ((b.getD k default).n))) : Value) := hA219 11 (by decide)
        have e225 : vals 16 = (if (!decide (((a.getD k default).n) = ((b.getD k default).n))) = false then ((cellV W (sb va) (so va + k * 2 + 1)) : Value) else undef) := hA219 16 (by decide)
        have e226 : vals 21 = (if (!decide (((a.getD k default).n) = ((b.getD k default).n))) = false then ((cellV W (sb vb) (so vb + k * 2 + 1)) : Value) else undef) := hA219 21 (by decide)
        refine oblc rfl rfl (show _ = (.bool (!decide (((a.getD k default).n) = ((b.getD k default).n))) : Value) from e224) (fun hb227 => ?_) (fun hb227 vals' hv hv' => ?_)
        · skip
          have hl228 : (!decide (((a.getD k default).n) = ((b.getD k default).n))) = false := hb227
          have hl228 := ndec_false hl228
          have hi230 : k < a.length := (by first | omega | (simp only [lens]; omega))
          obtain ⟨hce229, hde229_0, hoke229⟩ := ha.cel hi230
          rw [← getD_at default hi230] at hce229 hde229_0 hoke229
          have hsm231 : ((a.getD k default).set).length * 8 ≤ 140737488355328 := hde229_0.small
          have hcw232 := hS223.cells hce229 (ha.foot (ne_of_lt hi230))
          have hi234 : k < b.length := (by first | omega | (simp only [lens]; omega))
          obtain ⟨hce233, hde233_0, hoke233⟩ := hb.cel hi234
          rw [← getD_at default hi234] at hce233 hde233_0 hoke233
          have hsm235 : ((b.getD k default).set).length * 8 ≤ 140737488355328 := hde233_0.small
          have hcw236 := hS223.cells hce233 (hb.foot (ne_of_lt hi234))
          refine (ov_call (f := 18) (vals := [(cellV W (sb va) (so va + k * 2 + 1)), (cellV W (sb vb) (so vb + k * 2 + 1))]) (cap := []) (show _ = (.func (.func 18) #[] #[] : Value) from rfl) (mapL ⟨(show _ = ((cellV W (sb va) (so va + k * 2 + 1)) : Value) from (Eq.trans e225 (if_pos hb227))), (show _ = ((cellV W (sb vb) (so vb + k * 2 + 1)) : Value) from (Eq.trans e226 (if_pos hb227))), trivial⟩) Try.call18 (D_SameInts (a := (a.getD k default).set) (va := (cellV W (sb va) (so va + k * 2 + 1))) (b := (b.getD k default).set) (vb := (cellV W (sb vb) (so vb + k * 2 + 1))) hde229_0 hde233_0 hS223) ?_)
          rintro _ w237 ⟨rfl, hS238⟩
          intro vals' hv hv'
          refine ⟨?_, trivial⟩
          show (vals' 22 = (if (!decide (((a.getD k default).n) = ((b.getD k default).n))) = false then (.bool (decide (((a.getD k default).set) = ((b.getD k default).set))) : Value) else undef)) ∧ Sep G W Rs w237
          exact ⟨(hv.trans (if_pos hb227).symm), hS238⟩
        · skip
          refine ⟨?_, trivial⟩
          show (vals' 22 = (if (!decide (((a.getD k default).n) = ((b.getD k default).n))) = false then (.bool (decide (((a.getD k default).set) = ((b.getD k default).set))) : Value) else undef)) ∧ Sep G W Rs w218
          exact ⟨(hv.trans (if_neg hb227).symm), hS223⟩
      · intro k468 vals w469 h472 h473 hW471 hA470
        obtain rfl : k468 = 1 := Nat.le_antisymm h473 h472
        obtain ⟨he239, hS474⟩ : (vals 22 = (if (!decide (((a.getD k default).n) = ((b.getD k default).n))) = false then (.bool (decide (((a.getD k default).set) = ((b.getD k default).set))) : Value) else undef)) ∧ Sep G W Rs w469 := hW471
        have e475 : vals 11 = (.bool (!decide (((a.getD k default).n) = ((b.getD k default).n))) : Value) := hA470 11 (by decide)
        refine oblc rfl rfl (show _ = (.bool (!decide (((a.getD k default).n) = ((b.getD k default).n))) : Value) from e475) (fun hb476 => ?_) (fun hb476 => fun vals' hv _ => ⟨trivial, hv.trans (if_neg hb476).symm⟩)
        have hl477 : (!decide (((a.getD k default).n) = ((b.getD k default).n))) = false := hb476
        have hl477 := ndec_false hl477
        exact ov_not (a := decide (((a.getD k default).set) = ((b.getD k default).set))) (show _ = (.bool (decide (((a.getD k default).set) = ((b.getD k default).set))) : Value) from (Eq.trans he239 (if_pos hb476))) (fun vals' hv _ => ⟨rfl, hv.trans (if_pos hb476).symm⟩)
      · intro k478 vals w479 h482 h483 hW481 hA480
        have e484 : vals 11 = (.bool (!decide (((a.getD k default).n) = ((b.getD k default).n))) : Value) := hA480 11 (by decide)
        have e485 : vals 23 = (if (!decide (((a.getD k default).n) = ((b.getD k default).n))) = false then (.bool (!(decide (((a.getD k default).set) = ((b.getD k default).set)))) : Value) else undef) := hA480 23 (by decide)
        refine obl rfl ?_
        exact ov_pick_or (b := !decide (((a.getD k default).n) = ((b.getD k default).n))) (b' := !(decide (((a.getD k default).set) = ((b.getD k default).set)))) (show _ = (.bool (!decide (((a.getD k default).n) = ((b.getD k default).n))) : Value) from e484) (fun hbp => (show _ = (.bool (!(decide (((a.getD k default).set) = ((b.getD k default).set)))) : Value) from (Eq.trans e485 (if_pos hbp)))) (fun vals' hv _ => ⟨rfl, hv⟩)
      intro vals w486 hW487 hA488
      obtain ⟨he239, hS489⟩ : (vals 22 = (if (!decide (((a.getD k default).n) = ((b.getD k default).n))) = false then (.bool (decide (((a.getD k default).set) = ((b.getD k default).set))) : Value) else undef)) ∧ Sep G W Rs w486 := hW487
      have e490 : vals 24 = (.bool ((!decide (((a.getD k default).n) = ((b.getD k default).n))) || (!(decide (((a.getD k default).set) = ((b.getD k default).set))))) : Value) := hA488 24 (by decide)
      refine st_env (kv := [(0, va), (1, vb), (5, .int .i64 ((k : Nat) : Int)), (11, .int .i64 ((k : Nat) : Int)), (12, va), (13, .int .i64 ((a.length : Nat) : Int)), (14, .bool true), (41, .bool ((!decide (((a.getD k default).n) = ((b.getD k default).n))) || (!(decide (((a.getD k default).set) = ((b.getD k default).set))))))]) ⟨rfl, rfl, rfl, rfl, rfl, rfl, rfl, (by exact e490), trivial⟩ (fun ρw486 => ?_)
      refine st_nil ?_
      cases hc491 : (!decide (((a.getD k default).n) = ((b.getD k default).n))) || (!(decide (((a.getD k default).set) = ((b.getD k default).set))))
      · skip
        try simp only [bools] at hc491
        refine WP_cond_f rfl ?_
        refine WP_skip ?_
        refine WP_region0 (by kernel_rfl) (fun _ => ?_)
        refine st (ov_move (v := .int .i64 ((k : Nat) : Int)) rfl ?_)
        have hr492 : InR ((k + 1 : Nat) : Int) := by first | omega | (simp only [lens]; omega)
        refine st (ov_add (r := ((k + 1 : Nat) : Int)) (k := .i64) (a := ((k : Nat) : Int)) (b := 1) rfl rfl (by rw [show (((k : Nat) : Int) + 1 : Int) = ((k + 1 : Nat) : Int) by first | omega | (simp only [lens]; omega)]; exact wrap_in hr492) ?_)
        refine st (ov_assign (v := .int .i64 ((k + 1 : Nat) : Int)) rfl ?_)
        refine st_nil ?_
        exact ⟨_, by omega, k + 1, _, rfl, setAll_self ⟨rfl, rfl, rfl, trivial⟩, by omega, (all_step hm (cel_ext hc491.1 hc491.2)), hS489⟩
      · skip
        try simp only [bools] at hc491
        refine WP_cond_t rfl ?_
        refine WP_seq ?_
        refine WP_region0 (by kernel_rfl) (fun _ => ?_)
        refine st (ov_assign (v := .bool false) rfl ?_)
        refine st_nil ?_
        refine WP_ret ?_
        refine fin1 Try.results12 (show _ = (.bool false : Value) from rfl) ?_
        refine ⟨?_, hS489⟩
        rw [decide_eq_false (fun e => by subst e; first | omega | (rcases hc491 with h | h <;> exact h rfl))]
  · skip
    have hc1 := ndec_true hc1
    refine WP_cond_t rfl ?_
    refine WP_seq ?_
    refine WP_region0 (by kernel_rfl) (fun _ => ?_)
    refine st (ov_assign (v := .bool false) rfl ?_)
    refine st_nil ?_
    refine WP_ret ?_
    refine fin1 Try.results12 (show _ = (.bool false : Value) from rfl) ?_
    refine ⟨?_, hS0⟩
    rw [decide_eq_false (fun e => by subst e; first | omega | (rcases hc1 with h | h <;> exact h rfl))]

theorem D_has {G : Nat → Prop} {W w : World} {Rs : List HP} {vl : Value} {l : List Int} (hl : RdS W G vl l) {n : Int} (hn : InR n) (hS0 : Sep G W Rs w) : Ret Try.prog 24 [vl, .int .i64 (n)] w (fun r w' => r = (.bool (decide (n ∈ l)) : Value) ∧ Sep G W Rs w') := by
  have hls : l.length * 8 ≤ 140737488355328 := hl.small
  refine Calls_of_WP (args := [vl, .int .i64 (n)]) Try.func24 rfl rfl ?_
  refine WP_seq ?_
  refine WP_region0 (by kernel_rfl) (fun _ => ?_)
  refine st (ov_assign (v := .bool false) rfl ?_)
  refine st_nil ?_
  refine WP_seq ?_
  refine WP_seq ?_
  refine WP_region0 (by kernel_rfl) (fun _ => ?_)
  refine st (ov_assign (v := .int .i64 (0)) rfl ?_)
  refine st_nil ?_
  refine WP_block ?_
  refine WP_loop (fun mq σ wq => ∃ (k : Nat) (ρ : Env), mq = l.length - k ∧ σ = setAll ρ [(0, vl), (1, .int .i64 (n)), (5, .int .i64 ((k : Nat) : Int))] ∧ (k ≤ l.length) ∧ (∀ i, i < k → ¬ l.getD i 0 = n) ∧ Sep G W Rs wq) ⟨0, _, rfl, setAll_self ⟨rfl, rfl, rfl, trivial⟩, Nat.zero_le _, (fun i h => absurd h (Nat.not_lt_zero i)), hS0⟩ ?_
  rintro m2 σ3 w1 ⟨k, ρl1, rfl, rfl, hkk, hm, hS4⟩
  refine WP_seq ?_
  refine WP_seq ?_
  refine WP_region0 (by kernel_rfl) (fun _ => ?_)
  refine st (ov_move (v := .int .i64 ((k : Nat) : Int)) rfl ?_)
  refine st (ov_move (v := vl) rfl ?_)
  refine st (ov_len (n := l.length) Try.underlying44 rfl hl.sl ?_)
  refine st (ov_lss (k := .i64) (a := ((k : Nat) : Int)) (b := ((l.length : Nat) : Int)) rfl rfl ?_)
  refine st_nil ?_
  cases hc5 : decide (((k : Nat) : Int) < ((l.length : Nat) : Int))
  · skip
    have hc5 := of_decide_eq_false hc5
    refine WP_cond_f rfl ?_
    refine WP_exit ?_
    refine blk_exit ?_
    refine WP_seq ?_
    refine WP_region0 (by kernel_rfl) (fun _ => ?_)
    refine st (ov_assign (v := .bool false) rfl ?_)
    refine st_nil ?_
    refine WP_ret ?_
    refine fin1 Try.results24 (show _ = (.bool false : Value) from rfl) ?_
    refine ⟨?_, hS4⟩
    rw [decide_eq_false (not_mem_getD (fun i hi => hm i (by omega)))]
  · skip
    have hc5 := of_decide_eq_true hc5
    refine WP_cond_t rfl ?_
    refine WP_skip ?_
    refine WP_seq ?_
    refine WP_block ?_
    refine WP_seq ?_
    refine WP_region0 (by kernel_rfl) (fun _ => ?_)
    refine st (ov_move (v := vl) rfl ?_)
    refine st (ov_move (v := .int .i64 ((k : Nat) : Int)) rfl ?_)
    have hi6 : k < l.length := (by first | omega | (simp only [lens]; omega))
    refine st (ov_indexAddrN (k := 1) (i := k) Try.underlying44 Try.sizeOf3 rfl hl.sl rfl hi6 ?_)
    have hi8 : k < l.length := (by first | omega | (simp only [lens]; omega))
    obtain ⟨hce7, hxe7⟩ := hl.int hi8
    rw [← getD_at 0 hi8] at hce7 hxe7
    have hcw9 := hS4.cells hce7 (hl.foot (ne_of_lt hi8))
    refine st (ov_load1 (v := .int .i64 ((l.getD k 0))) Try.isAgg3 rfl (hcw9.get (j := 0) rfl) ?_)
    refine st (ov_move (v := .int .i64 (n)) rfl ?_)
    refine st (ov_eql (k := .i64) (a := (l.getD k 0)) (b := n) rfl rfl ?_)
    refine st_nil ?_
    cases hc10 : decide ((l.getD k 0) = n)
    · skip
      have hc10 := of_decide_eq_false hc10
      refine WP_cond_f rfl ?_
      refine WP_skip ?_
      refine WP_region0 (by kernel_rfl) (fun _ => ?_)
      refine st (ov_move (v := .int .i64 ((k : Nat) : Int)) rfl ?_)
      have hr11 : InR ((k + 1 : Nat) : Int) := by first | omega | (simp only [lens]; omega)
      refine st (ov_add (r := ((k + 1 : Nat) : Int)) (k := .i64) (a := ((k : Nat) : Int)) (b := 1) rfl rfl (by rw [show (((k : Nat) : Int) + 1 : Int) = ((k + 1 : Nat) : Int) by first | omega | (simp only [lens]; omega)]; exact wrap_in hr11) ?_)
      refine st (ov_assign (v := .int .i64 ((k + 1 : Nat) : Int)) rfl ?_)
      refine st_nil ?_
      exact ⟨_, by omega, k + 1, _, rfl, setAll_self ⟨rfl, rfl, rfl, trivial⟩, by omega, (all_step hm hc10), hS4⟩
    · skip
      have hc10 := of_decide_eq_true hc10
      refine WP_cond_t rfl ?_
      refine WP_seq ?_
      refine WP_region0 (by kernel_rfl) (fun _ => ?_)
      refine st (ov_assign (v := .bool true) rfl ?_)
      refine st_nil ?_
      refine WP_ret ?_
      refine fin1 Try.results24 (show _ = (.bool true : Value) from rfl) ?_
      refine ⟨?_, hS4⟩
      rw [decide_eq_true (mem_getD (by omega) hc10)]

theorem D_New {G : Nat → Prop} {W w : World} {Rs : List HP} {t : Typ} {dt0 : Value} (hdt0 : RdS W G dt0 t.fields) (ot : t.Ok) (hS0 : Sep G W Rs w) : Ret Try.prog 15 [.agg (t.cells dt0).toArray] w (fun r w' => ∃ (v : Value), r = (v : Value) ∧ Sep G W ((RowE (α := Cel) own 47 v (List.replicate t.fields.length (⟨0, []⟩ : Cel))) :: Rs) w') := by
  have hdt0s : t.fields.length * 48 ≤ 140737488355328 := hdt0.small
  refine Calls_of_WP (args := [.agg (t.cells dt0).toArray]) Try.func15 rfl rfl ?_
  refine WP_seq ?_
  refine WP_region0 (by kernel_rfl) (fun _ => ?_)
  refine st (ov_box (v := .agg (t.cells dt0).toArray) rfl ?_)
  intro w3 b2 hn1
  have hS4 : Sep G W ((Blk b2 (t.cells dt0).toArray 31) :: Rs) w3 := hS0.new hn1
  refine st (ov_assign (v := (.slice none 0 0)) rfl ?_)
  refine st_nil ?_
  refine WP_seq ?_
  refine WP_region0 (by kernel_rfl) (fun _ => ?_)
  refine st (fd31_0 rfl ?_)
  refine st (ov_load1 (v := dt0) Try.isAgg29 rfl (blk_cellL (hS4.blk (i := 0) rfl) rfl) ?_)
  refine st (ov_len (n := t.fields.length) Try.underlying29 rfl hdt0.sl ?_)
  refine st (ov_makeSlice (α := Cel) (T := 47) (bytes := 32) (n := t.fields.length) (x1 := (⟨0, []⟩ : Cel)) Try.underlying26 ⟨_, _, rfl, rfl, rfl, rfl, rfl, fun _ _ => ⟨_, rfl, RdS.nil _ _, ⟨by decide⟩⟩⟩ rfl rfl rfl (by show t.fields.length * 32 ≤ 140737488355328; omega) ?_)
  intro w10 b5 hx6 he7 hl8 ho9
  have hS11 : Sep G W ((RowE (α := Cel) own 47 (.slice (some ⟨b5, 0, none⟩) t.fields.length t.fields.length) (List.replicate t.fields.length (⟨0, []⟩ : Cel))) :: (Blk b2 (t.cells dt0).toArray 31) :: Rs) w10 := hS4.made hx6 ho9
  have hr12 := hS11.row (i := 0) rfl
  have hr12s : (List.replicate t.fields.length (⟨0, []⟩ : Cel)).length * 32 ≤ 140737488355328 := hr12.2
  refine st (ov_assign (v := (.slice (some ⟨b5, 0, none⟩) t.fields.length t.fields.length)) rfl ?_)
  refine st_nil ?_
  refine WP_ret ?_
  refine fin1 Try.results15 (show _ = ((.slice (some ⟨b5, 0, none⟩) t.fields.length t.fields.length) : Value) from rfl) ?_
  have hS13 : Sep G W ((RowE (α := Cel) own 47 (.slice (some ⟨b5, 0, none⟩) t.fields.length t.fields.length) (List.replicate t.fields.length (⟨0, []⟩ : Cel))) :: Rs) w10 := hS11.sel 2 [0] (Nat.le_add_left _ _) rfl rfl
  refine ⟨(.slice (some ⟨b5, 0, none⟩) t.fields.length t.fields.length), rfl, hS13⟩

end Go.Proofs.Ytlblilbmpdejgaa
