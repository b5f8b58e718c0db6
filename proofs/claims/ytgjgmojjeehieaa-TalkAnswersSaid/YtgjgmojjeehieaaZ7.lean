/- Texts of this claim, part 7. -/
import Derived.Test.YtgjgmojjeehieaaZ6
set_option linter.unusedSimpArgs false
set_option linter.unusedVariables false
set_option linter.unusedSectionVars false
/- Steps of the proofs of this seat: part A9. -/
set_option maxRecDepth 8000
set_option maxHeartbeats 4000000
namespace Go.Proofs.Ytgjgmojjeehieaa
open Go.Proofs Go.RowKit

theorem Qb {P : Program} {σ : Env} {w : World} {fn : Func} {a u : Tmp} {t : TypeId} {R : Value → World → Prop} {b k : Nat} {cs : List Value} {v' : Value} (hr : fn.results = #[.cell a t, .tmp u]) (hA : ∀ w, (isAgg t).run P w = .ok true w) (hS : ∀ w, (sizeOf t).run P w = .ok k w) (hk : cs.length = k)
    (hv : σ a = .pointer (some ⟨b, 0, none⟩)) (hc : CellsAt w b 0 cs) (hu : σ u = v') (h : R (.tuple #[.agg cs.toArray, v']) w) : Yp P fn R .ret σ w := by
  subst hk
  refine ⟨_, fun tmps ht => ?_, h⟩
  have := yJ (P := P) (w := w) b 0 cs 0 #[] (fun j hj => by simpa using hc j hj)
  have e : tmps[a]?.getD undef = .pointer (some ⟨b, 0, none⟩) := by rw [← hv, ← ht a]; simp
  have e2 : tmps[u]?.getD undef = v' := by rw [← hu, ← ht u]; simp
  simp [results, hr, e, e2, asAddr, loadVar, hA, hS, loadCells, this, go_sem]
theorem YX {d : Option Tmp} {ty : TypeId} {pos : String} {af : Array Edge} {g : Option (Nat × Bool)} {σ : Env} {w : World} {K : Value → World → Prop} {x : Operand} {b o : Nat} (hx : ev σ x = .pointer (some ⟨b, o, none⟩)) (h : K (.pointer (some ⟨b, o + 1, none⟩)) w) : opV Try.prog ⟨d, .fieldAddr 73 x 1, ty, pos, af, g⟩ σ w K := zL Try.underlying73 rfl rfl (fun w => ⟨0, Try.sizeOf71 w⟩) hx h
def yM (L : List Ev) (e : Ev) (o : Nat) : Bool := decide (e.deps.getD o 0 = 0) || match zy L ((o : Int), e.deps.getD o 0) with
  | none => false
  | some x => decide (x.lam < e.lam) && (List.range x.deps.length).all fun i => decide (x.deps.getD i 0 ≤ e.deps.getD i 0)
theorem Us {L : List Ev} {e : Ev} {o : Nat} (h : e.deps.getD o 0 = 0) : yM L e o = true := by unfold yM; rw [decide_eq_true h]; rfl
theorem Vy {L : List Ev} {e : Ev} {o : Nat} (h : ¬ e.deps.getD o 0 = 0) (hn : (zy L ((o : Int), e.deps.getD o 0)).isSome = false) : yM L e o = false := by
  unfold yM
  rw [Option.isSome_eq_false_iff, Option.isNone_iff_eq_none] at hn
  rw [hn, decide_eq_false h]; rfl
theorem ZB {L : List Ev} {e x : Ev} {o : Nat} (h : ¬ e.deps.getD o 0 = 0) (hx : x = (zy L ((o : Int), e.deps.getD o 0)).getD default) (hn : (zy L ((o : Int), e.deps.getD o 0)).isSome = true) :
    yM L e o = (decide (x.lam < e.lam) && (List.range x.deps.length).all fun i => decide (x.deps.getD i 0 ≤ e.deps.getD i 0)) := by
  unfold yM
  obtain ⟨y, hy⟩ := Option.isSome_iff_exists.1 hn
  rw [hy] at hx
  simp only [Option.getD_some] at hx
  subst hx
  rw [hy]; simp only [decide_eq_false h, Bool.false_or]
theorem xU {L : List Ev} {k : Int × Int} {x : Ev} (h : zy L k = some x) : x ∈ L ∧ x.origin = k.1 ∧ x.seq = k.2 := by
  have h1 := List.mem_of_find?_eq_some h
  have h2 := List.find?_some h
  simp only [decide_eq_true_eq] at h2
  exact ⟨h1, h2⟩
theorem Xx {n : Nat} {L : List Ev} {k : Int × Int} {x : Ev} (hl : ∀ y ∈ L, y.deps.length = n) (hx : x = (zy L k).getD default) (hn : (zy L k).isSome = true) : x.deps.length = n := by
  obtain ⟨y, hy⟩ := Option.isSome_iff_exists.1 hn
  rw [hy] at hx
  simp only [Option.getD_some] at hx
  subst hx
  exact hl _ (xU hy).1
theorem Qr {G : Nat → Prop} {W w : World} {Rs : List HP} {b : Nat} {n : Nat} {L : List Ev} (hb : (SetO b n L).p W G) {e : Ev} {de0 : Value} (hde0 : RdS W G de0 e.deps) (oe : e.Ok) {o : Nat} (ho : o < n) (hS0 : Sep G W Rs w) (hel : e.deps.length = n) (hlen : ∀ y ∈ L, y.deps.length = n) : Ret Try.prog 56 [.pointer (some ⟨b, 0, none⟩), .agg (e.cells de0).toArray, .int .i64 ((o : Nat) : Int)] w (fun r w' => r = (.bool ((yM L e o)) : Value) ∧ Sep G W Rs w') := by
 have hde0s : _ * 8 ≤ _ := hde0.small
 refine zq (args := [.pointer (some ⟨b, 0, none⟩), .agg (e.cells de0).toArray, .int .i64 ((o : Nat) : Int)]) Try.func56 rfl rfl ?_
 obtain ⟨vv1, m2, R3, hb4, hv5, hr6⟩ := SetO.sh hb
 have hsm7 : (zc n L).length * 8 ≤ 140737488355328 := hv5.small
 refine zd ?_
 refine za (by kernel_rfl) (fun _ => ?_)
 refine st (yp (v := .agg (e.cells de0).toArray) rfl ?_)
 intro w10 b9 hn8
 have hS11 := hS0.new hn8
 refine st (zf (v := .bool false) rfl ?_)
 refine zg ?_
 refine zd ?_
 refine za (by kernel_rfl) (fun _ => ?_)
 refine st (yA rfl ?_)
 refine st (zh (v := de0) Try.isAgg34 rfl (zi (hS11.blk (i := 0) rfl) rfl) ?_)
 refine st (zb (v := .int .i64 ((o : Nat) : Int)) rfl ?_)
 have hi12 : o < e.deps.length := (by first | omega | (simp only [zu]; omega))
 refine st (zl (k := 1) (i := o) Try.underlying34 Try.sizeOf3 rfl hde0.sl rfl hi12 ?_)
 have hi14 : o < e.deps.length := (by first | omega | (simp only [zu]; omega))
 obtain ⟨hce13, hxe13⟩ := hde0.int hi14
 rw [← zo 0 hi14] at hce13 hxe13
 have hcw15 := hS11.cells hce13 (hde0.foot (ne_of_lt hi14))
 refine st (zh (v := .int .i64 ((e.deps.getD o 0))) Try.isAgg3 rfl (hcw15.get (j := 0) rfl) ?_)
 refine st (zf (v := .int .i64 ((e.deps.getD o 0))) rfl ?_)
 refine zg ?_
 refine zd ?_
 refine zd ?_
 refine za (by kernel_rfl) (fun _ => ?_)
 refine st (zb (v := .int .i64 ((e.deps.getD o 0))) rfl ?_)
 refine st (zO (k := .i64) (a := (e.deps.getD o 0)) (b := 0) rfl rfl ?_)
 refine zg ?_
 cases hc16 : decide ((e.deps.getD o 0) = 0)
 ·skip
  have hc16r := hc16
  have hc16 := of_decide_eq_false hc16
  refine zk rfl ?_
  refine zp ?_
  refine zd ?_
  refine za (by kernel_rfl) (fun _ => ?_)
  refine st (zb (v := .pointer (some ⟨b, 0, none⟩)) rfl ?_)
  refine st (zC (b := b) (o := 0) rfl ?_)
  refine st (YX rfl ?_)
  refine st (zh (v := .map (some m2)) Try.isAgg71 rfl (zi (hS11.gblk hb4) rfl) ?_)
  refine st (zb (v := .int .i64 ((o : Nat) : Int)) rfl ?_)
  refine st (zb (v := .int .i64 ((e.deps.getD o 0))) rfl ?_)
  refine st (zW (parts' := [(0, .int .i64 ((o : Nat) : Int)), (1, .int .i64 ((e.deps.getD o 0)))]) (v := .agg #[.int .i64 ((o : Nat) : Int), .int .i64 ((e.deps.getD o 0))]) rfl (by simp [Instr.build, Instr.fill, Ev.cells, go_sem, Ev.cells]) ?_)
  obtain ⟨x17, vd18, hx19, hv20, hok21, hd22, hb23⟩ := hr6.at_ (((o : Nat) : Int), (e.deps.getD o 0))
  have hsm24 : x17.deps.length * 8 ≤ 140737488355328 := hd22.small
  refine st (Zv (k := (((o : Nat) : Int), (e.deps.getD o 0))) hS11 hr6 K2 Try.underlying71 Try.zeroValue36 rfl (show _ = (.agg #[.int .i64 ((o : Nat) : Int), .int .i64 ((e.deps.getD o 0))] : Value) from rfl) hv20 hb23 ?_)
  refine st (zb (v := .tuple #[.agg (x17.cells vd18).toArray, .bool ((zy L (((o : Nat) : Int), (e.deps.getD o 0))).isSome)]) rfl ?_)
  refine st (yx (vs := [.agg (x17.cells vd18).toArray, .bool ((zy L (((o : Nat) : Int), (e.deps.getD o 0))).isSome)]) (i := 0) (v := .agg (x17.cells vd18).toArray) rfl rfl ?_)
  refine st (yx (vs := [.agg (x17.cells vd18).toArray, .bool ((zy L (((o : Nat) : Int), (e.deps.getD o 0))).isSome)]) (i := 1) (v := .bool ((zy L (((o : Nat) : Int), (e.deps.getD o 0))).isSome)) rfl rfl ?_)
  refine st (zX Try.zeroValue36 ?_)
  intro w27 b26 hn25
  have hS28 := hS11.new hn25
  refine stn (zT (v := .agg (x17.cells vd18).toArray) (c' := (x17.cells vd18).toArray) Try.sizeOf36 rfl rfl (hS28.blk (i := 0) rfl) (yz ⟨rfl, rfl, rfl, hd22.sl.one, rfl, rfl, rfl, rfl, rfl, rfl, trivial⟩) (Nat.le_of_ble_eq_true rfl) rfl ?_)
  intro w29 hp30
  have hS31 := hS28.pt0 hp30
  refine st (zf (v := .bool ((zy L (((o : Nat) : Int), (e.deps.getD o 0))).isSome)) rfl ?_)
  refine zg ?_
  refine zd ?_
  refine zd ?_
  refine zF (by kernel_rfl) ?_
  refine st (zb (v := .bool ((zy L (((o : Nat) : Int), (e.deps.getD o 0))).isSome)) rfl ?_)
  refine st (yH (a := (zy L (((o : Nat) : Int), (e.deps.getD o 0))).isSome) rfl ?_)
  refine st (zb (v := .bool (!((zy L (((o : Nat) : Int), (e.deps.getD o 0))).isSome))) rfl ?_)
  refine stc (V := .pointer (some ⟨b26, 2, none⟩)) rfl rfl (fun hb32 => ?_) ?_
  ·have hl33 := hb32
   try simp only [zr] at hl33
   exact yP rfl ⟨rfl, rfl⟩
  refine stc (V := .int .i64 (x17.lam)) rfl rfl (fun hb34 => ?_) ?_
  ·have hl35 := hb34
   try simp only [zr] at hl35
   exact zh (v := .int .i64 (x17.lam)) Try.isAgg3 (show _ = (.pointer (some ⟨b26, 2, none⟩) : Value) from (if_pos hb34)) (zi (hS31.blk (i := 0) rfl) rfl) ⟨rfl, rfl⟩
  refine stc (V := .pointer (some ⟨b9, 2, none⟩)) rfl rfl (fun hb36 => ?_) ?_
  ·have hl37 := hb36
   try simp only [zr] at hl37
   exact yP rfl ⟨rfl, rfl⟩
  refine stc (V := .int .i64 (e.lam)) rfl rfl (fun hb38 => ?_) ?_
  ·have hl39 := hb38
   try simp only [zr] at hl39
   exact zh (v := .int .i64 (e.lam)) Try.isAgg3 (show _ = (.pointer (some ⟨b9, 2, none⟩) : Value) from (if_pos hb38)) (zi (hS31.blk (i := 1) rfl) rfl) ⟨rfl, rfl⟩
  refine stc (V := .bool (decide (e.lam ≤ x17.lam))) rfl rfl (fun hb40 => ?_) ?_
  ·have hl41 := hb40
   try simp only [zr] at hl41
   exact xz (k := .i64) (a := x17.lam) (b := e.lam) (show _ = (.int .i64 (x17.lam) : Value) from (if_pos hb40)) (show _ = (.int .i64 (e.lam) : Value) from (if_pos hb40)) ⟨rfl, rfl⟩
  refine st (zD (b := !((zy L (((o : Nat) : Int), (e.deps.getD o 0))).isSome)) (b' := decide (e.lam ≤ x17.lam)) rfl (fun hbp => (show _ = (.bool (decide (e.lam ≤ x17.lam)) : Value) from (if_pos hbp))) ?_)
  refine zg ?_
  cases hc42 : (!((zy L (((o : Nat) : Int), (e.deps.getD o 0))).isSome)) || (decide (e.lam ≤ x17.lam))
  ·skip
   have hc42r := hc42
   try simp only [zr] at hc42
   have hq9 := hc42r
   simp only [Bool.or_eq_false_iff, Bool.not_eq_false', decide_eq_false_iff_not, Bool.not_eq_eq_eq_not, Bool.not_false] at hq9
   have hxl9 := Xx hlen hx19 hq9.1
   refine zk rfl ?_
   refine zp ?_
   refine zd ?_
   refine zd ?_
   refine za (by kernel_rfl) (fun _ => ?_)
   refine st (yA rfl ?_)
   refine st (zh (v := vd18) Try.isAgg34 rfl (zi (hS31.blk (i := 0) rfl) rfl) ?_)
   refine st (zB (n := x17.deps.length) Try.underlying34 rfl hd22.sl ?_)
   refine st (zb (v := .int .i64 (0)) rfl ?_)
   refine zg ?_
   refine zx ?_
   refine yb (fun mq σ wq => ∃ (k : Nat) (ρ : Env), mq = x17.deps.length - k ∧ σ = ye ρ [(0, .pointer (some ⟨b, 0, none⟩)), (4, .pointer (some ⟨b9, 0, none⟩)), (40, vd18), (41, .int .i64 ((x17.deps.length : Nat) : Int)), (42, .int .i64 ((k : Nat) : Int))] ∧ (k ≤ x17.deps.length) ∧ (∀ i, i < k → x17.deps.getD i 0 ≤ e.deps.getD i 0) ∧ Sep G W ((Blk b26 (x17.cells vd18).toArray 36) :: (Blk b9 (e.cells de0).toArray 36) :: Rs) wq) ⟨0, _, rfl, zn ⟨rfl, rfl, rfl, rfl, rfl, trivial⟩, Nat.zero_le _, (fun i h => absurd h (Nat.not_lt_zero i)), hS31⟩ ?_
   rintro m44 σ45 w43 ⟨k, ρl1, rfl, rfl, hkk, hm, hS46⟩
   refine zd ?_
   refine za (by kernel_rfl) (fun _ => ?_)
   refine st (zJ (k := .i64) (a := ((k : Nat) : Int)) (b := ((x17.deps.length : Nat) : Int)) rfl rfl ?_)
   refine zg ?_
   refine zd ?_
   cases hc47 : decide (((k : Nat) : Int) < ((x17.deps.length : Nat) : Int))
   ·skip
    have hc47r := hc47
    have hc47 := of_decide_eq_false hc47
    refine zk rfl ?_
    refine ya ?_
    refine zQ ?_
    refine zd ?_
    refine za (by kernel_rfl) (fun _ => ?_)
    refine st (zf (v := .bool true) rfl ?_)
    refine zg ?_
    refine zw ?_
    refine zM Try.results56 (show _ = (.bool true : Value) from rfl) ?_
    have hS48 : Sep G W Rs w43 := hS46.sel 2 [] (Nat.le_add_left _ _) rfl rfl
    refine ⟨?_, hS48⟩
    rw [ZB hc16 hx19 hq9.1, decide_eq_true (show x17.lam < e.lam by omega), Bool.true_and]
    rw [List.all_eq_true.2 (fun i hi => decide_eq_true (hm i (by have := List.mem_range.1 hi; omega)))]
   ·skip
    have hc47r := hc47
    have hc47 := of_decide_eq_true hc47
    refine zm rfl ?_
    refine zp ?_
    refine zd ?_
    refine zx ?_
    refine zd ?_
    refine za (by kernel_rfl) (fun _ => ?_)
    refine st (zb (v := .int .i64 ((k : Nat) : Int)) rfl ?_)
    have hi49 : k < x17.deps.length := (by first | omega | (simp only [zu]; omega))
    refine st (zl (k := 1) (i := k) Try.underlying34 Try.sizeOf3 rfl hd22.sl rfl hi49 ?_)
    have hi51 : k < x17.deps.length := (by first | omega | (simp only [zu]; omega))
    obtain ⟨hce50, hxe50⟩ := hd22.int hi51
    rw [← zo 0 hi51] at hce50 hxe50
    have hcw52 := hS46.cells hce50 (hd22.foot (ne_of_lt hi51))
    refine st (zh (v := .int .i64 ((x17.deps.getD k 0))) Try.isAgg3 rfl (hcw52.get (j := 0) rfl) ?_)
    refine st (zf (v := .int .i64 ((k : Nat) : Int)) rfl ?_)
    refine st (zf (v := .int .i64 ((x17.deps.getD k 0))) rfl ?_)
    refine zg ?_
    refine zd ?_
    refine za (by kernel_rfl) (fun _ => ?_)
    refine st (zb (v := .int .i64 ((x17.deps.getD k 0))) rfl ?_)
    refine st (yA rfl ?_)
    refine st (zh (v := de0) Try.isAgg34 rfl (zi (hS46.blk (i := 1) rfl) rfl) ?_)
    refine st (zb (v := .int .i64 ((k : Nat) : Int)) rfl ?_)
    have hi53 : k < e.deps.length := (by first | omega | (simp only [zu]; omega))
    refine st (zl (k := 1) (i := k) Try.underlying34 Try.sizeOf3 rfl hde0.sl rfl hi53 ?_)
    have hi55 : k < e.deps.length := (by first | omega | (simp only [zu]; omega))
    obtain ⟨hce54, hxe54⟩ := hde0.int hi55
    rw [← zo 0 hi55] at hce54 hxe54
    have hcw56 := hS46.cells hce54 (hde0.foot (ne_of_lt hi55))
    refine st (zh (v := .int .i64 ((e.deps.getD k 0))) Try.isAgg3 rfl (hcw56.get (j := 0) rfl) ?_)
    refine st (yy (k := .i64) (a := (x17.deps.getD k 0)) (b := (e.deps.getD k 0)) rfl rfl ?_)
    refine zg ?_
    cases hc57 : decide ((e.deps.getD k 0) < (x17.deps.getD k 0))
    ·skip
     have hc57r := hc57
     have hc57 := of_decide_eq_false hc57
     refine zk rfl ?_
     refine zp ?_
     refine za (by kernel_rfl) (fun _ => ?_)
     have hr58 : InR ((k + 1 : Nat) : Int) := by first | omega | (simp only [zu]; omega)
     refine st (zU (r := ((k + 1 : Nat) : Int)) (k := .i64) (a := ((k : Nat) : Int)) (b := 1) rfl rfl (by rw [show (((k : Nat) : Int) + 1 : Int) = ((k + 1 : Nat) : Int) by first | omega | (simp only [zu]; omega)]; exact zH hr58) ?_)
     refine st (zb (v := .int .i64 ((k + 1 : Nat) : Int)) rfl ?_)
     refine zg ?_
     exact ⟨_, by omega, k + 1, _, rfl, zn ⟨rfl, rfl, rfl, rfl, rfl, trivial⟩, by omega, (yU hm (by omega)), hS46⟩
    ·skip
     have hc57r := hc57
     have hc57 := of_decide_eq_true hc57
     refine zm rfl ?_
     refine zd ?_
     refine za (by kernel_rfl) (fun _ => ?_)
     refine st (zf (v := .bool false) rfl ?_)
     refine zg ?_
     refine zw ?_
     refine zM Try.results56 (show _ = (.bool false : Value) from rfl) ?_
     have hS59 : Sep G W Rs w43 := hS46.sel 2 [] (Nat.le_add_left _ _) rfl rfl
     refine ⟨?_, hS59⟩
     rw [ZB hc16 hx19 hq9.1, decide_eq_true (show x17.lam < e.lam by omega), Bool.true_and]
     congr 1
     symm
     rw [List.all_eq_false]
     exact ⟨k, List.mem_range.2 (by omega), by simp only [decide_eq_true_eq]; omega⟩
  ·skip
   have hc42r := hc42
   try simp only [zr] at hc42
   refine zm rfl ?_
   refine zd ?_
   refine za (by kernel_rfl) (fun _ => ?_)
   refine st (zf (v := .bool false) rfl ?_)
   refine zg ?_
   refine zw ?_
   refine zM Try.results56 (show _ = (.bool false : Value) from rfl) ?_
   have hS60 : Sep G W Rs w29 := hS31.sel 2 [] (Nat.le_add_left _ _) rfl rfl
   refine ⟨?_, hS60⟩
   cases hq9 : (zy L (((o : Nat) : Int), (e.deps.getD o 0))).isSome
   · rw [Vy hc16 hq9]
   · rw [ZB hc16 hx19 hq9]
     have h9 : ¬ x17.lam < e.lam := by rw [hq9] at hc42r; simpa using hc42r
     simp [h9]
 ·skip
  have hc16r := hc16
  have hc16 := of_decide_eq_true hc16
  refine zm rfl ?_
  refine zd ?_
  refine za (by kernel_rfl) (fun _ => ?_)
  refine st (zf (v := .bool true) rfl ?_)
  refine zg ?_
  refine zw ?_
  refine zM Try.results56 (show _ = (.bool true : Value) from rfl) ?_
  have hS61 : Sep G W Rs w10 := hS11.sel 1 [] (Nat.le_add_left _ _) rfl rfl
  refine ⟨?_, hS61⟩
  rw [Us hc16]

end Go.Proofs.Ytgjgmojjeehieaa
