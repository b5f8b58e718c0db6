/- Steps of the proofs of this seat: part Fns7. -/
import Derived.Test.YtbbhpddgjiifmaaFns6
set_option linter.unusedSimpArgs false
set_option linter.unusedVariables false
namespace Go.Proofs.Ytbbhpddgjiifmaa
open Go.Proofs Go.RowKit

theorem C_by1 {w : World} {Fa : Nat → Prop} {a : Ev} {da : Value} (ha : RdS w Fa da a.deps) (oa : a.Ok) {Fb : Nat → Prop} {b : Ev} {db : Value} (hb : RdS w Fb db b.deps) (ob : b.Ok) {cb : Nat} (hcb : w.heap[cb]? = some (.cells #[.func (.func 28) #[] #[]] 49)) : Ret Try.prog 39 [.agg (a.cells da).toArray, .agg (b.cells db).toArray, .pointer (some ⟨cb, 0, none⟩)] w (fun r w' => r = .int .i64 (cmpP a b) ∧ Ext w w') := by
  have has : a.deps.length * 8 ≤ 140737488355328 := ha.small
  have hbs : b.deps.length * 8 ≤ 140737488355328 := hb.small
  refine Calls_of_WP (args := [.agg (a.cells da).toArray, .agg (b.cells db).toArray, .pointer (some ⟨cb, 0, none⟩)]) Try.func39 rfl rfl ?_
  refine WP_seq ?_
  refine WP_region0 (by kernel_rfl) (fun _ => ?_)
  refine st (ov_box (v := .agg (a.cells da).toArray) rfl (fun w1 b2 hn1 => ?_))
  have hb3 : w1.heap[b2]? = some (.cells (a.cells da).toArray 29) := hn1.at_
  have hs4 := hn1.size; have hs4e := hn1.eq
  refine st (ov_box (v := .agg (b.cells db).toArray) rfl (fun w2 b6 hn5 => ?_))
  have hb7 : w2.heap[b6]? = some (.cells (b.cells db).toArray 29) := hn5.at_
  have hs8 := hn5.size; have hs8e := hn5.eq
  refine st (ov_assign (v := .int .i64 (0)) rfl ?_)
  refine st_nil ?_
  refine WP_seq ?_
  refine WP_draw Ext (AL [fun v w => v = (.func (.func 28) #[] #[] : Value), fun v w => v = (.agg (a.cells da).toArray : Value), fun v w => v = (.agg #[.int .i64 (a.lam), .int .i64 (a.origin), .int .i64 (a.seq)] : Value), fun v w => v = (.agg (b.cells db).toArray : Value), fun v w => v = (.agg #[.int .i64 (b.lam), .int .i64 (b.origin), .int .i64 (b.seq)] : Value)]) [[], [], [1], [], [1, 2, 3], [0, 1, 2, 3, 4], [0, 1, 2, 3, 4, 5]] 5 (by kernel_rfl) (by kernel_rfl) (by kernel_rfl) (fun w => Chg.refl _ w) (fun _ _ _ h1 h2 => h1.trans h2) (stabL ⟨fun _ _ _ _ h => h, fun _ _ _ _ h => h, fun _ _ _ _ h => h, fun _ _ _ _ h => h, fun _ _ _ _ h => h, trivial⟩) ?_
  intro w3 qh1 qh2 qh3 qh4
  have hx9 := ext_same qh1 qh2 qh3 qh4
  refine ⟨⟨?_, ?_, ?_, ?_, ?_, trivial⟩, ?_⟩
  · intro vals w4 hR10 hA
    have hs11 := hR10.size
    refine obl rfl ?_
    have h12 := (Chg.trans (Chg.trans (Chg.trans hn1.ext hn5.ext) hx9) hR10).keep hcb (fun h => h)
    exact ov_load1 (v := .func (.func 28) #[] #[]) Try.isAgg49 rfl (blk_cellL h12 rfl) ⟨Chg.refl _ _, rfl⟩
  · intro vals w5 hR13 hA
    have hs14 := hR13.size
    refine obl rfl ?_
    have h15 := (Chg.trans (Chg.trans hn5.ext hx9) hR13).keep hb3 (fun h => h)
    exact ov_loadk (k := 10) Try.isAgg29 Try.sizeOf29 rfl rfl (CellsAt.all h15) ⟨Chg.refl _ _, rfl⟩
  · intro vals w6 hR16 hA
    have hs17 := hR16.size
    have e1 : (vals 1) = (.agg (a.cells da).toArray : Value) := hA 1 (by decide)
    refine obl rfl ?_
    have h18 := ha.ext (Chg.trans (Chg.trans (Chg.trans hn1.ext hn5.ext) hx9) hR16)
    exact ov_call (f := 27) (vals := [.agg (a.cells da).toArray]) (cap := []) (show _ = (.func (.func 27) #[] #[] : Value) from rfl) (mapL ⟨(show _ = (.agg (a.cells da).toArray : Value) from e1), trivial⟩) Try.call27 (C_of h18 oa) (fun _ _ h => ⟨h.2, h.1⟩)
  · intro vals w7 hR19 hA
    have hs20 := hR19.size
    refine obl rfl ?_
    have h21 := (Chg.trans hx9 hR19).keep hb7 (fun h => h)
    exact ov_loadk (k := 10) Try.isAgg29 Try.sizeOf29 rfl rfl (CellsAt.all h21) ⟨Chg.refl _ _, rfl⟩
  · intro vals w8 hR22 hA
    have hs23 := hR22.size
    have e3 : (vals 3) = (.agg (b.cells db).toArray : Value) := hA 3 (by decide)
    refine obl rfl ?_
    have h24 := hb.ext (Chg.trans (Chg.trans (Chg.trans hn1.ext hn5.ext) hx9) hR22)
    exact ov_call (f := 27) (vals := [.agg (b.cells db).toArray]) (cap := []) (show _ = (.func (.func 27) #[] #[] : Value) from rfl) (mapL ⟨(show _ = (.agg (b.cells db).toArray : Value) from e3), trivial⟩) Try.call27 (C_of h24 ob) (fun _ _ h => ⟨h.2, h.1⟩)
  intro vals w9 hR25 hA
  have hs26 := hR25.size
  have hs27 := hx9.size
  have e0 : (vals 0) = (.func (.func 28) #[] #[] : Value) := hA 0 (by decide)
  have e2 : (vals 2) = (.agg #[.int .i64 (a.lam), .int .i64 (a.origin), .int .i64 (a.seq)] : Value) := hA 2 (by decide)
  have e4 : (vals 4) = (.agg #[.int .i64 (b.lam), .int .i64 (b.origin), .int .i64 (b.seq)] : Value) := hA 4 (by decide)
  refine st_env (kv := [(0, .agg (a.cells da).toArray), (1, .agg (b.cells db).toArray), (2, .pointer (some ⟨cb, 0, none⟩)), (3, .pointer (some ⟨b2, 0, none⟩)), (4, .pointer (some ⟨b6, 0, none⟩)), (5, .int .i64 (0)), (6, .func (.func 28) #[] #[]), (8, .agg #[.int .i64 (a.lam), .int .i64 (a.origin), .int .i64 (a.seq)]), (10, .agg #[.int .i64 (b.lam), .int .i64 (b.origin), .int .i64 (b.seq)])]) ⟨rfl, rfl, rfl, rfl, rfl, rfl, e0, e2, e4, trivial⟩ (fun ρ9 => ?_)
  clear e0 e2 e4
  clear hA qh1 qh2 qh3 qh4
  refine st (ov_call (f := 28) (vals := [.agg #[.int .i64 (a.lam), .int .i64 (a.origin), .int .i64 (a.seq)], .agg #[.int .i64 (b.lam), .int .i64 (b.origin), .int .i64 (b.seq)]]) (cap := []) (show _ = (.func (.func 28) #[] #[] : Value) from rfl) rfl Try.call28 (C_compare oa.lam oa.origin oa.seq ob.lam ob.origin ob.seq) ?_)
  rintro _ w10 ⟨rfl, hx28⟩
  have hx28s := hx28.size
  refine st (ov_assign (v := .int .i64 (orL [cmpI a.lam b.lam, cmpI a.origin b.origin, cmpI a.seq b.seq])) rfl ?_)
  refine st_nil ?_
  refine WP_ret ?_
  refine fin1 Try.results39 (show _ = (.int .i64 (orL [cmpI a.lam b.lam, cmpI a.origin b.origin, cmpI a.seq b.seq]) : Value) from rfl) ?_
  refine ⟨?_, (Chg.trans (Chg.trans (Chg.trans (Chg.trans hn1.ext hn5.ext) hx9) hR25) hx28)⟩
  rfl

def swapL (l : List Ev) (i j : Nat) : List Ev := (l.set i (l.getD j default)).set j (l.getD i default)
def sift (l : List Ev) (a : Nat) : Nat → List Ev
  | 0 => l
  | j + 1 => if a < j + 1 ∧ less (l.getD (j + 1) default) (l.getD j default) = true then sift (swapL l (j + 1) j) a j else l
def insFrom (a : Nat) : (n : Nat) → (i : Nat) → List Ev → List Ev
  | 0, _, l => l
  | n + 1, i, l => insFrom a n (i + 1) (sift l a i)
theorem swapL_length (l : List Ev) (i j : Nat) : (swapL l i j).length = l.length := by simp [swapL]
theorem sift_length (a : Nat) : ∀ (j : Nat) (l : List Ev), (sift l a j).length = l.length
  | 0, l => rfl
  | j + 1, l => by unfold sift; split; rw [sift_length a j, swapL_length]; rfl

end Go.Proofs.Ytbbhpddgjiifmaa
