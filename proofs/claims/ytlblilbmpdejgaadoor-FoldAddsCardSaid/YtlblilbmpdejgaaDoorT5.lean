import Derived.Test.YtlblilbmpdejgaaDoorT4
import Derived.Test.YtlblilbmpdejgaaDoorT2
import Derived.Test.YtlblilbmpdejgaaDoorT1
import Derived.Lib.LaidTab
import Derived.LaidMore
import Derived.LaidLaws
import Derived.Stop.Joined
import Derived.Test.YtlblilbmpdejgaaDoorRows
import Derived.OpenShut
import Derived.MakeChecks
set_option linter.unusedSimpArgs false
set_option linter.unusedVariables false
set_option linter.unusedSectionVars false
set_option linter.deprecated false
/- Steps of the proofs of this seat: part C10. -/
set_option maxRecDepth 8000
namespace Go.Proofs.YtlblilbmpdejgaaDoor
open Go.Proofs Go.RowKit

theorem Xa {α : Type} {a b : List α} {d : α} (hl : a.length = b.length) (h : ∀ i, i < a.length → a.getD i d = b.getD i d) : a = b := by
  refine List.ext_getElem hl (fun i h1 h2 => ?_)
  have := h i h1
  rwa [zm _ h1, zm _ h2] at this
theorem YR {G : Nat → Prop} {W w : World} {Rs : List HP} {vl : Value} {l : List Int} (hl : RdS W G vl l) (hS0 : Sep G W Rs w) : Ret Tryd.prog 58 [vl] w (fun r w' => ∃ (v : Value), r = (v : Value) ∧ Sep G W ((RowE (α := Int) own 3 v l) :: Rs) w') := by
 have hls : _ * 8 ≤ _ := hl.small
 refine zr (args := [vl]) Tryd.func58 rfl rfl ?_
 refine zd (za kr (fun _ => (st (ze (v := (Iz)) rfl (zf (zd (za kr (fun _ => (st (ze (v := (Iz)) rfl (zf (zd (zd (za kr (fun _ => (st (ze (v := Iv 0) rfl (zf (zw ?_)))))))))))))))))))
 have B : Sep G W ((RowE (α := Int) own 3 (Iz) ([] : List Int)) :: Rs) w := hS0.rowNil own 3
 refine yd (fun mq σ F => ∃ (k : Nat) (vo : Value) (ρ : Env), mq = l.length - k ∧ σ = yh ρ [(0, vl), (4, Iw k), (3, vo)] ∧ (k ≤ l.length) ∧ Sep G W ((RowE (α := Int) own 3 vo (l.take k)) :: Rs) F) ⟨0, (Iz), _, rfl, zq ⟨rfl, rfl, rfl, trivial⟩, Nat.zero_le _, B⟩ ?_
 rintro m3 σ4 w2 ⟨k, vo, ρl1, rfl, rfl, hkk, d⟩
 have C := d.row (i := 0) rfl
 have hr6s : _ * 8 ≤ _ := C.2
 refine zd (zd (za kr (fun _ => (st (zb (v := Iw k) rfl (st (zb (v := vl) rfl (st (zJ (n := l.length) Tryd.underlying40 rfl hl.sl (st (zL (k := .i64) (a := ((k : Nat) : Int)) (b := ((l.length : Nat) : Int)) rfl rfl (zf ?_))))))))))))
 cases g : decide (((k : Nat) : Int) < ((l.length : Nat) : Int))
 have g := fD g
 refine zn rfl (yc (zU (zd (za kr (fun _ => (st (zb (v := vo) rfl (st (ze (v := vo) rfl (zf (zt (zO Tryd.results58 (show _ = (vo : Value) from rfl) ?_))))))))))))
 have D : k = l.length := by omega
 rw [D, List.take_length] at d
 refine ⟨vo, rfl, d⟩
 have g := tD g
 refine zo rfl (zv (zd (zw (za kr (fun _ => (st (zb (v := vo) rfl (st (zb (v := vl) rfl (st (zb (v := Iw k) rfl ?_)))))))))))
 have E : k < l.length := bo
 refine st (zk (k := 1) (i := k) Tryd.underlying40 Tryd.sizeOf3 rfl hl.sl rfl E ?_)
 have e : k < l.length := bo
 obtain ⟨h, m⟩ := hl.int e
 rw [← zm 0 e] at h m
 have p := d.cells h (hl.foot (ne_of_lt e))
 refine st (zg (v := Iv ((l.getD k 0))) Tryd.isAgg3 rfl (p.get (j := 0) rfl) (st (zD (k := 1) (parts' := [(0, Iv ((l.getD k 0)))]) (c := #[Iv ((l.getD k 0))]) Tryd.underlying40 Tryd.sizeOf3 Tryd.zeroValue3 dc rfl kr ?_)))
 intro w14 b13 t
 have o := d.new t
 have q := o.blk (i := 0) rfl
 have u := o.s2_b
 have x := u.emp1
 refine st (yp (src := own) (bytes := 8) (x1 := (l.getD k 0)) x Vv rfl rfl q (fun _ _ _ => (show _ from ⟨rfl, m⟩)) (by first | omega | (simp only [List.length_append, List.length_cons, List.length_nil, List.length_take, List.length_drop]; omega)) rfl ?_)
 intro s w16 f
 have y := f.row (i := 0) rfl
 have hr22s : _ * 8 ≤ _ := y.2
 refine st (ze (v := s) rfl (zf (za kr (fun _ => (st (zb (v := Iw k) rfl ?_))))))
 have z : InR ((k + 1 : Nat) : Int) := bo
 refine st (zV (r := ((k + 1 : Nat) : Int)) (k := .i64) (a := ((k : Nat) : Int)) (b := 1) rfl rfl (by rw [show (((k : Nat) : Int) + 1 : Int) = ((k + 1 : Nat) : Int) from bo]; exact zM z) (st (ze (v := Iw (k + 1)) rfl (zf ?_))))
 have A : (l.take (k + 1)) = (l.take k) ++ [(l.getD k 0)] := (List.take_getD om)
 rw [← A] at f
 exact ⟨_, by omega, k + 1, s, _, rfl, zq ⟨rfl, rfl, rfl, trivial⟩, by omega, f⟩

theorem YW {G : Nat → Prop} {W w : World} {Rs : List HP} {va : Value} {a : List Int} (ha : RdS W G va a) {vb : Value} {b : List Int} (hb : RdS W G vb b) (hS0 : Sep G W Rs w) : Ret Tryd.prog 19 [va, vb] w (fun r w' => r = (.bool (decide (a = b)) : Value) ∧ Sep G W Rs w') := by
 have has : _ * 8 ≤ _ := ha.small
 have hbs : _ * 8 ≤ _ := hb.small
 refine zr (args := [va, vb]) Tryd.func19 rfl rfl ?_
 refine zd (za kr (fun _ => (st (ze (v := .bool false) rfl (zf (zd (zd (za kr (fun _ => (st (zb (v := va) rfl (st (zJ (n := a.length) Tryd.underlying40 rfl ha.sl (st (zb (v := vb) rfl (st (zJ (n := b.length) Tryd.underlying40 rfl hb.sl (st (yq (k := .i64) (a := ((a.length : Nat) : Int)) (b := ((b.length : Nat) : Int)) rfl rfl (zf ?_))))))))))))))))))))
 cases m : !decide (((a.length : Nat) : Int) = ((b.length : Nat) : Int))
 have m := zC m
 refine zn rfl (zv (zd (zd (za kr (fun _ => (st (ze (v := Iv 0) rfl (zf (zw (yd (fun mq σ L => ∃ (k : Nat) (ρ : Env), mq = a.length - k ∧ σ = yh ρ [(0, va), (1, vb), (5, Iw k)] ∧ (k ≤ a.length) ∧ (∀ i, i < k → a.getD i 0 = b.getD i 0) ∧ Sep G W Rs L) ⟨0, _, rfl, zq ⟨rfl, rfl, rfl, trivial⟩, Nat.zero_le _, (fun i h => absurd h (Nat.not_lt_zero i)), hS0⟩ ?_))))))))))
 rintro m3 σ4 w2 ⟨k, ρl1, rfl, rfl, hkk, hm, K⟩
 refine zd (zd (za kr (fun _ => (st (zb (v := Iw k) rfl (st (zb (v := va) rfl (st (zJ (n := a.length) Tryd.underlying40 rfl ha.sl (st (zL (k := .i64) (a := ((k : Nat) : Int)) (b := ((a.length : Nat) : Int)) rfl rfl (zf ?_))))))))))))
 cases o : decide (((k : Nat) : Int) < ((a.length : Nat) : Int))
 have o := fD o
 refine zn rfl (yc (zU (zd (za kr (fun _ => (st (ze (v := .bool true) rfl (zf (zt (zO Tryd.results19 (show _ = (.bool true : Value) from rfl) ?_))))))))))
 refine ⟨?_, K⟩
 rw [decide_eq_true (Xa (by omega) (fun i hi => hm i (by omega)))]
 have o := tD o
 refine zo rfl (zv (zd (zw (zd (WD4 (WF [fun vals L => Sep G W Rs L]) (AF [Vl 0 (va), Vl 1 (Iw k), Vl 2 (Ix (sb va) (so va + k * 1)), Vl 3 (Iv ((a.getD k 0))), Vl 4 (vb), Vl 5 (Iw k), Vl 6 (Ix (sb vb) (so vb + k * 1)), Vl 7 (Iv ((b.getD k 0))), Vl 8 (.bool (!decide ((a.getD k 0) = (b.getD k 0))))]) [[], [], [0, 1], [0, 1, 2], [], [], [4, 5], [4, 5, 6], (rg 8)] [] [(0, 0), (0, 0), (0, 0), (0, 0), (0, 0), (0, 0), (0, 0), (0, 0), (0, 0)] K ⟨?_, ?_, ?_, ?_, ?_, ?_, ?_, ?_, ?_, trivial⟩ ?_)))))
 exact fun _ _ _ _ _ _ _ => obl rfl (zb (v := va) rfl dR)
 exact fun _ _ _ _ _ _ _ => obl rfl (zb (v := Iw k) rfl dR)
 refine ob1 0 fun _ _ _ t => (obl rfl ?_)
 have A : k < a.length := bo
 exact zk (k := 1) (i := k) Tryd.underlying40 Tryd.sizeOf3 (t 0 dc) ha.sl (t 1 dc) A dR
 refine ob1 0 fun _ _ (B : Sep _ _ _ _) C => (obl rfl ?_)
 have d : k < a.length := bo
 obtain ⟨g, u⟩ := ha.int d
 rw [← zm 0 d] at g u
 have x := B.cells g (ha.foot (ne_of_lt d))
 exact zg (v := Iv ((a.getD k 0))) Tryd.isAgg3 (C 2 dc) (x.get (j := 0) rfl) dR
 exact fun _ _ _ _ _ _ _ => obl rfl (zb (v := vb) rfl dR)
 exact fun _ _ _ _ _ _ _ => obl rfl (zb (v := Iw k) rfl dR)
 refine ob1 0 fun _ _ _ p => (obl rfl ?_)
 have D : k < b.length := bo
 exact zk (k := 1) (i := k) Tryd.underlying40 Tryd.sizeOf3 (p 4 dc) hb.sl (p 5 dc) D dR
 refine ob1 0 fun _ _ (E : Sep _ _ _ _) F => (obl rfl ?_)
 have f : k < b.length := bo
 obtain ⟨l, y⟩ := hb.int f
 rw [← zm 0 f] at l y
 have z := E.cells l (hb.foot (ne_of_lt f))
 exact zg (v := Iv ((b.getD k 0))) Tryd.isAgg3 (F 6 dc) (z.get (j := 0) rfl) dR
 exact ob1 0 fun _ _ _ q => obl rfl (yq (k := .i64) (a := (a.getD k 0)) (b := (b.getD k 0)) (q 3 dc) (q 7 dc) dR)
 intro vals w157 H I
 have s : Sep _ _ _ _ := H
 have M := I 8 dc
 refine yf (kv := [(0, va), (1, vb), (5, Iw k), (11, Iw k), (12, va), (13, Iw a.length), (14, .bool true), (25, .bool (!decide ((a.getD k 0) = (b.getD k 0))))]) ⟨rfl, rfl, rfl, rfl, rfl, rfl, rfl, (by exact M), trivial⟩ (fun ρw157 => (zf ?_))
 cases c : !decide ((a.getD k 0) = (b.getD k 0))
 have c := zC c
 refine zn rfl (zv (za kr (fun _ => (st (zb (v := Iw k) rfl ?_)))))
 have J : InR ((k + 1 : Nat) : Int) := bo
 refine st (zV (r := ((k + 1 : Nat) : Int)) (k := .i64) (a := ((k : Nat) : Int)) (b := 1) rfl rfl (by rw [show (((k : Nat) : Int) + 1 : Int) = ((k + 1 : Nat) : Int) from bo]; exact zM J) (st (ze (v := Iw (k + 1)) rfl (zf ?_))))
 exact ⟨_, by omega, k + 1, _, rfl, zq ⟨rfl, rfl, rfl, trivial⟩, by omega, (yW hm om), s⟩
 have c := zR c
 refine zo rfl (zd (za kr (fun _ => (st (ze (v := .bool false) rfl (zf (zt (zO Tryd.results19 (show _ = (.bool false : Value) from rfl) ?_))))))))
 refine ⟨?_, s⟩
 rw [decide_eq_false (fun e => by subst e; omega)]
 have m := zR m
 refine zo rfl (zd (za kr (fun _ => (st (ze (v := .bool false) rfl (zf (zt (zO Tryd.results19 (show _ = (.bool false : Value) from rfl) ?_))))))))
 refine ⟨?_, hS0⟩
 rw [decide_eq_false (fun e => by subst e; omega)]

end Go.Proofs.YtlblilbmpdejgaaDoor
/- Cells that are worked on: seen as a row; made new. -/
namespace Go.Proofs.YtlblilbmpdejgaaDoor
open Go.RowKit
section
variable {G : Nat → Prop} {W w : World} {As : List HP} {T Ti : TypeId} {v : Value} {sh : List CelS} {l : List Cel}
theorem CelW.rowP {f : Nat → Prop} (h : (CelW v T Ti l).p w f) : (RowE (α := Cel) own T v l).p w f := by
  obtain ⟨sh, ⟨hlen, hn⟩, hA⟩ := h
  obtain ⟨fs, q1, q2⟩ := hA
  obtain ⟨⟨css, hE, hown, hrow, hsm⟩, hf0⟩ := q1 0 _ rfl
  obtain ⟨hSt, hf1⟩ := q1 1 _ rfl
  have q2' := q2 0 1 (by simp) (by simp) (by simp)
  have hcl := hE.length
  refine ⟨css, EP.of_at (by omega) (fun i h1 h2 => ?_), by rw [← hlen]; exact hown, fun b hb => (hf0 b (hrow b hb)).1, by rw [← hlen]; exact hsm⟩
  have hs : i < sh.length := by omega
  obtain ⟨hcs, hin, hone⟩ : css[i] = sh[i].cells ∧ InR sh[i].n ∧ sh[i].v.oneCell' = true := (EP.at2 hE i h1 hs).imp id (fun h => ⟨h.n, h.one⟩)
  have hr : (RowE (α := Int) own Ti (sh.getD i default).v (l.getD i default).set).p w (fs 1) := Star.at_ hSt (SetRows.get hs h2)
  have hsoft := RowE.soft hr
  have hni := hn i h2
  rw [zm _ hs, zm _ h2] at hsoft hni
  refine ⟨sh[i].v, ?_, hsoft.mono (fun b hb hlt => ⟨rfl, ⟨(hf1 b hb.1).1, fun e => q2' b (hrow b e) hb.1⟩, hb.2⟩), ⟨by rw [← hni]; exact hin⟩⟩
  rw [hcs]
  show [Value.int .i64 sh[i].n, sh[i].v] = _
  rw [hni]; rfl
theorem CelW.rd {f : Nat → Prop} (h : (CelW v T Ti l).p w f) : RdS w f v l := RowE.rd (CelW.rowP h)
end
end Go.Proofs.YtlblilbmpdejgaaDoor
/- Steps of the proofs of this seat: part C11. -/
set_option maxRecDepth 8000
namespace Go.Proofs.YtlblilbmpdejgaaDoor
open Go.Proofs Go.RowKit

def xD (l : List Int) (n : Int) (b : Bool) : List Int := if b = true then l.filter (fun y => decide (y < n)) ++ n :: l.filter (fun y => decide (n < y)) else l.filter (fun y => decide (y ≠ n))
def Yn (l : List Int) (n : Int) (b : Bool) : Prop := (b = false → ∀ y ∈ l, y ≤ n) ∧ (b = true → ∃ y ∈ l, n < y)
theorem w_le {l : List Int} {n : Int} (h : ∀ y ∈ l, y ≤ n) : l.filter (fun y => decide (y ≠ n)) = l.filter (fun y => decide (y < n)) ∧ l.filter (fun y => decide (n < y)) = [] := by
  constructor
  · refine List.filter_congr (fun y hy => ?_)
    have := h y hy
    rw [decide_eq_decide]; omega
  · refine List.filter_eq_nil_iff.2 (fun y hy => ?_)
    have := h y hy
    simp only [decide_eq_true_eq]; omega
theorem VK {l : List Int} {n x : Int} {b : Bool} (h : Yn l n b) (hb : b = false) (hx : n < x) : xD (l ++ [x]) n true = xD l n b ++ [n] ++ [x] ∧ Yn (l ++ [x]) n true := by
  subst hb
  obtain ⟨e1, e2⟩ := w_le (h.1 rfl)
  refine ⟨?_, fun h => Bool.noConfusion h, fun _ => ⟨x, by simp, hx⟩⟩
  unfold xD
  rw [if_pos rfl, if_neg (by decide), e1, List.filter_append, List.filter_append, e2, List.filter_cons, List.filter_cons, if_neg (by simp; omega), if_pos (by simpa using hx)]
  simp
theorem VY {l : List Int} {n x : Int} {b : Bool} (h : Yn l n b) (ha : Asc (l ++ [x])) (hc : b = true ∨ x ≤ n) (hx : ¬ x = n) : xD (l ++ [x]) n b = xD l n b ++ [x] ∧ Yn (l ++ [x]) n b := by
  cases b with
  | false =>
    have hxn : x ≤ n := by rcases hc with h | h; · cases h
                           · exact h
    refine ⟨?_, fun _ y hy => ?_, fun h => Bool.noConfusion h⟩
    · unfold xD
      rw [if_neg (by decide), if_neg (by decide), List.filter_append, List.filter_cons, if_pos (by simpa using hx)]; rfl
    · rcases List.mem_append.1 hy with hy | hy
      · exact h.1 rfl y hy
      · rw [List.mem_singleton.1 hy]; exact hxn
  | true =>
    obtain ⟨y, hy, hny⟩ := h.2 rfl
    have hyx : y < x := (List.pairwise_append.1 ha).2.2 y hy x (List.mem_singleton.2 rfl)
    refine ⟨?_, fun h => Bool.noConfusion h, fun _ => ⟨y, List.mem_append_left _ hy, hny⟩⟩
    unfold xD
    rw [if_pos rfl, if_pos rfl, List.filter_append, List.filter_append, List.filter_cons, List.filter_cons, if_neg (by simp; omega), if_pos (by simp; omega)]
    simp
theorem We {l : List Int} {n x : Int} {b : Bool} (h : Yn l n b) (hx : x = n) : xD (l ++ [x]) n b = xD l n b ∧ Yn (l ++ [x]) n b := by
  subst hx
  refine ⟨?_, fun hb y hy => ?_, fun hb => ?_⟩
  · unfold xD
    simp [List.filter_append, List.filter_cons]
  · rcases List.mem_append.1 hy with hy | hy
    · exact h.1 hb y hy
    · rw [List.mem_singleton.1 hy]; exact Int.le_refl _
  · obtain ⟨y, hy, hl⟩ := h.2 hb; exact ⟨y, List.mem_append_left _ hy, hl⟩
theorem UN {l : List Int} (ha : Asc l) (n : Int) : xD l n true = Zd l n := by
  unfold xD
  rw [if_pos rfl]
  refine Kq ?_ (WA ha n) (fun y => ?_)
  · refine List.pairwise_append.2 ⟨ha.filter _, List.pairwise_cons.2 ⟨fun y hy => ?_, ha.filter _⟩, fun a ha2 b hb => ?_⟩
    · simpa using (List.mem_filter.1 hy).2
    · have h1 : a < n := by simpa using (List.mem_filter.1 ha2).2
      rcases List.mem_cons.1 hb with rfl | hb
      · exact h1
      · have h2 : n < b := by simpa using (List.mem_filter.1 hb).2
        omega
  · rw [UR]
    simp only [List.mem_append, List.mem_cons, List.mem_filter, decide_eq_true_eq]
    constructor
    · rintro (⟨h1, _⟩ | rfl | ⟨h1, _⟩)
      · exact .inr h1
      · exact .inl rfl
      · exact .inr h1
    · rintro (rfl | h1)
      · exact .inr (.inl rfl)
      · rcases Int.lt_trichotomy y n with h2 | h2 | h2
        · exact .inl ⟨h1, h2⟩
        · exact .inr (.inl h2)
        · exact .inr (.inr ⟨h1, h2⟩)
theorem w_end {l : List Int} {n : Int} {b : Bool} (h : Yn l n b) (hb : b = false) (ha : Asc l) : xD l n b ++ [n] = Zd l n := by
  subst hb
  obtain ⟨e1, e2⟩ := w_le (h.1 rfl)
  rw [← UN ha]
  unfold xD
  rw [if_pos rfl, if_neg (by decide), e1, e2]
theorem Ya {l : List Int} (h : Asc l) (k : Nat) : Asc (l.take k) := h.sublist (List.take_sublist k l)
theorem w_ini (l : List Int) (n : Int) : Yn (l.take 0) n false := by
  rw [List.take_zero]
  exact ⟨fun _ y hy => (List.not_mem_nil hy).elim, fun h => Bool.noConfusion h⟩
theorem Qg (l : List Int) (n : Int) (b : Bool) : (xD l n b).length ≤ l.length + 1 := by
  have key : ∀ l : List Int, (l.filter (fun y => decide (y < n))).length + (l.filter (fun y => decide (n < y))).length ≤ l.length := by
    intro l
    induction l with
    | nil => simp
    | cons x l ih =>
      rw [List.filter_cons, List.filter_cons]
      by_cases h1 : x < n
      · rw [if_pos (by simpa using h1), if_neg (by simp; omega)]; simp only [List.length_cons]; omega
      · rw [if_neg (by simpa using h1)]
        split
        · simp only [List.length_cons]; omega
        · simp only [List.length_cons]; omega
  unfold xD
  split
  · have := key l
    simp only [List.length_append, List.length_cons]; omega
  · have := List.length_filter_le (fun y => decide (y ≠ n)) l
    omega
theorem xr {l : List Int} {k : Nat} (h : k < l.length) : l.take (k + 1) = l.take k ++ [l.getD k 0] := by rw [List.take_succ_eq_append_getElem h, zm _ h]
theorem KF {G : Nat → Prop} {W w : World} {Rs : List HP} {vl : Value} {l : List Int} (hl : RdS W G vl l) {n : Int} (hn : InR n) (hS0 : Sep G W Rs w) (hasc : Asc l) (hfew : l.length ≤ 1000) : Ret Tryd.prog 75 [vl, .int .i64 (n)] w (fun r w' => ∃ (v : Value), r = (v : Value) ∧ Sep G W ((RowE (α := Int) own 3 v (Zd l n)) :: Rs) w') := by
 have hls : _ * 8 ≤ _ := hl.small
 refine zr (args := [vl, Iv n]) Tryd.func75 rfl rfl ?_
 refine zd (za kr (fun _ => (st (ze (v := (Iz)) rfl (zf (zd (za kr (fun _ => (st (ze (v := (Iz)) rfl (zf (zd (za kr (fun _ => (st (ze (v := .bool false) rfl (zf (zd (zd (za kr (fun _ => (st (ze (v := Iv 0) rfl (zf (zw ?_)))))))))))))))))))))))))
 have aQ : Sep G W ((RowE (α := Int) own 3 (Iz) ([] : List Int)) :: Rs) w := hS0.rowNil own 3
 refine yd (fun mq σ wq => ∃ (k : Nat) (vo : Value) (ld : Bool) (ρ : Env), mq = l.length - k ∧ σ = yh ρ [(0, vl), (1, Iv n), (5, vo), (6, .bool ld), (7, Iw k)] ∧ (k ≤ l.length) ∧ (Yn (l.take k) n ld) ∧ Sep G W ((RowE (α := Int) own 3 vo (xD (l.take k) n ld)) :: Rs) wq) ⟨0, Iz, false, _, rfl, zq ⟨rfl, rfl, rfl, rfl, rfl, trivial⟩, Nat.zero_le _, (w_ini l n), aQ⟩ ?_
 rintro m3 σ4 w2 ⟨k, vo, ld, ρl1, rfl, rfl, hk, hw, e⟩
 have aR := e.row (i := 0) rfl
 have hr6s : _ * 8 ≤ _ := aR.2
 have hwl := Qg (l.take k) n ld
 rw [List.length_take] at hwl
 refine zd (zd (za kr (fun _ => (st (zb (v := Iw k) rfl (st (zb (v := vl) rfl (st (zJ (n := l.length) Tryd.underlying40 rfl hl.sl (st (zL (k := .i64) (a := ((k : Nat) : Int)) (b := ((l.length : Nat) : Int)) rfl rfl (zf ?_))))))))))))
 cases D : decide (((k : Nat) : Int) < ((l.length : Nat) : Int))
 have D := fD D
 refine zn rfl (yc (zU (zd (zd (za kr (fun _ => (st (zb (v := .bool ld) rfl (st (yt (a := ld) rfl (zf ?_)))))))))))
 cases E : !ld
 try simp only [zj] at E
 refine zn rfl (zv (zd (za kr (fun _ => (st (zb (v := vo) rfl (st (ze (v := vo) rfl (zf (zt (zO Tryd.results75 (show _ = (vo : Value) from rfl) ?_)))))))))))
 have u : k = l.length := by omega
 rw [u, List.take_length] at e
 rw [u, List.take_length] at hw
 rw [E, UN hasc] at e
 refine ⟨vo, rfl, e⟩
 try simp only [zj] at E
 refine zo rfl (za kr (fun _ => (st (zb (v := vo) rfl (st (zb (v := Iv n) rfl (st (zD (k := 1) (parts' := [(0, Iv n)]) (c := #[Iv n]) Tryd.underlying40 Tryd.sizeOf3 Tryd.zeroValue3 dc rfl kr ?_))))))))
 intro w11 b10 aS
 have J := e.new aS
 have T := J.blk (i := 0) rfl
 have ah := J.s2_b
 have ai := ah.emp1
 refine st (yp (src := own) (bytes := 8) (x1 := n) ai Vv rfl rfl T (fun _ _ _ => (show _ from ⟨rfl, hn⟩)) (by first | omega | (simp only [List.length_append, List.length_cons, List.length_nil, List.length_take, List.length_drop]; omega)) rfl ?_)
 intro x w13 o
 have aj := o.row (i := 0) rfl
 have hr19s : _ * 8 ≤ _ := aj.2
 refine st (ze (v := x) rfl (zf (zd (za kr (fun _ => (st (zb (v := x) rfl (st (ze (v := x) rfl (zf (zt (zO Tryd.results75 (show _ = (x : Value) from rfl) ?_))))))))))))
 have u : k = l.length := by omega
 rw [u, List.take_length] at o
 rw [u, List.take_length] at hw
 rw [w_end hw E hasc] at o
 refine ⟨x, rfl, o⟩
 have D := tD D
 refine zo rfl (zv (zd (zw (zd (zd (zF kr (st (zb (v := .bool ld) rfl (st (yt (a := ld) rfl (st (zb (v := .bool (!ld)) rfl (stc (V := vl) rfl rfl (fun ak => ?_) ?_)))))))))))))
 have al := ak
 try simp only [zj] at al
 exact zb (v := vl) rfl ⟨rfl, rfl⟩
 refine stc (V := Iw k) rfl rfl (fun am => ?_) ?_
 have an := am
 try simp only [zj] at an
 exact zb (v := Iw k) rfl ⟨rfl, rfl⟩
 refine stc (V := Ix (sb vl) (so vl + k * 1)) rfl rfl (fun y => ?_) ?_
 have ao := y
 try simp only [zj] at ao
 have ap : k < l.length := bo
 exact zk (k := 1) (i := k) Tryd.underlying40 Tryd.sizeOf3 (show _ = (vl : Value) from (if_pos y)) hl.sl (show _ = (Iw k : Value) from (if_pos y)) ap ⟨rfl, rfl⟩
 refine stc (V := Iv ((l.getD k 0))) rfl rfl (fun K => ?_) ?_
 have aq := K
 try simp only [zj] at aq
 have z : k < l.length := bo
 obtain ⟨F, U⟩ := hl.int z
 rw [← zm 0 z] at F U
 have X := e.cells F (hl.foot (ne_of_lt z))
 exact zg (v := Iv ((l.getD k 0))) Tryd.isAgg3 (show _ = (Ix (sb vl) (so vl + k * 1) : Value) from (if_pos K)) (X.get (j := 0) rfl) ⟨rfl, rfl⟩
 refine stc (V := Iv n) rfl rfl (fun ar => ?_) ?_
 have au := ar
 try simp only [zj] at au
 exact zb (v := Iv n) rfl ⟨rfl, rfl⟩
 refine stc (V := .bool (decide (n < (l.getD k 0)))) rfl rfl (fun A => ?_) ?_
 have av := A
 try simp only [zj] at av
 exact yT (k := .i64) (a := (l.getD k 0)) (b := n) (show _ = (Iv ((l.getD k 0)) : Value) from (if_pos A)) (show _ = (Iv n : Value) from (if_pos A)) ⟨rfl, rfl⟩
 refine st (zx (b := !ld) (b' := decide (n < (l.getD k 0))) rfl (fun hbp => (show _ = (.bool (decide (n < (l.getD k 0))) : Value) from (if_pos hbp))) (zf ?_))
 cases d : (!ld) && (decide (n < (l.getD k 0)))
 try simp only [zj] at d
 refine zn rfl (zv (zd (za kr (fun _ => (st (zb (v := vl) rfl (st (zb (v := Iw k) rfl ?_))))))))
 have aw : k < l.length := bo
 refine st (zk (k := 1) (i := k) Tryd.underlying40 Tryd.sizeOf3 rfl hl.sl rfl aw ?_)
 have p : k < l.length := bo
 obtain ⟨q, H⟩ := hl.int p
 rw [← zm 0 p] at q H
 have Y := e.cells q (hl.foot (ne_of_lt p))
 refine st (zg (v := Iv ((l.getD k 0))) Tryd.isAgg3 rfl (Y.get (j := 0) rfl) (st (zb (v := Iv n) rfl (st (yq (k := .i64) (a := (l.getD k 0)) (b := n) rfl rfl (zf ?_))))))
 cases f : !decide ((l.getD k 0) = n)
 have f := zC f
 refine zn rfl (zv (za kr (fun _ => (st (zb (v := Iw k) rfl ?_)))))
 have ax : InR ((k + 1 : Nat) : Int) := bo
 refine st (zV (r := ((k + 1 : Nat) : Int)) (k := .i64) (a := ((k : Nat) : Int)) (b := 1) rfl rfl (by rw [show (((k : Nat) : Int) + 1 : Int) = ((k + 1 : Nat) : Int) from bo]; exact zM ax) (st (ze (v := Iw (k + 1)) rfl (zf ?_))))
 have L : xD (l.take (k + 1)) n ld = (xD (l.take k) n ld) ∧ Yn (l.take (k + 1)) n ld := by
  rw [xr (by omega)]
  have m : Asc (l.take k ++ [l.getD k 0]) := by rw [← xr (by omega)]; exact Ya hasc _
  first | (exfalso; omega) | exact VK hw d.1 d.2 | exact VY hw m d f | exact We hw f
 rw [← L.1] at e
 exact ⟨_, by omega, k + 1, vo, ld, _, rfl, zq ⟨rfl, rfl, rfl, rfl, rfl, trivial⟩, by omega, L.2, e⟩
 have f := zR f
 refine zo rfl (za kr (fun _ => (st (zb (v := vo) rfl (st (zb (v := vl) rfl (st (zb (v := Iw k) rfl ?_))))))))
 have ay : k < l.length := bo
 refine st (zk (k := 1) (i := k) Tryd.underlying40 Tryd.sizeOf3 rfl hl.sl rfl ay ?_)
 have Z := e.cells q (hl.foot (ne_of_lt p))
 refine st (zg (v := Iv ((l.getD k 0))) Tryd.isAgg3 rfl (Z.get (j := 0) rfl) (st (zD (k := 1) (parts' := [(0, Iv ((l.getD k 0)))]) (c := #[Iv ((l.getD k 0))]) Tryd.underlying40 Tryd.sizeOf3 Tryd.zeroValue3 dc rfl kr ?_)))
 intro w49 b48 az
 have M := e.new az
 have aa := M.blk (i := 0) rfl
 have aA := M.s2_b
 have aB := aA.emp1
 refine st (yp (src := own) (bytes := 8) (x1 := (l.getD k 0)) aB Vv rfl rfl aa (fun _ _ _ => (show _ from ⟨rfl, H⟩)) (by first | omega | (simp only [List.length_append, List.length_cons, List.length_nil, List.length_take, List.length_drop]; omega)) rfl ?_)
 intro af w51 B
 have aC := B.row (i := 0) rfl
 have hr57s : _ * 8 ≤ _ := aC.2
 refine st (ze (v := af) rfl (zf (za kr (fun _ => (st (zb (v := Iw k) rfl ?_))))))
 have aD : InR ((k + 1 : Nat) : Int) := bo
 refine st (zV (r := ((k + 1 : Nat) : Int)) (k := .i64) (a := ((k : Nat) : Int)) (b := 1) rfl rfl (by rw [show (((k : Nat) : Int) + 1 : Int) = ((k + 1 : Nat) : Int) from bo]; exact zM aD) (st (ze (v := Iw (k + 1)) rfl (zf ?_))))
 have N : xD (l.take (k + 1)) n ld = (xD (l.take k) n ld) ++ [(l.getD k 0)] ∧ Yn (l.take (k + 1)) n ld := by
  rw [xr (by omega)]
  have m : Asc (l.take k ++ [l.getD k 0]) := by rw [← xr (by omega)]; exact Ya hasc _
  first | (exfalso; omega) | exact VK hw d.1 d.2 | exact VY hw m d f | exact We hw f
 rw [← N.1] at B
 exact ⟨_, by omega, k + 1, af, ld, _, rfl, zq ⟨rfl, rfl, rfl, rfl, rfl, trivial⟩, by omega, N.2, B⟩
 try simp only [zj] at d
 refine zo rfl (zd (za kr (fun _ => (st (zb (v := vo) rfl (st (zb (v := Iv n) rfl (st (zD (k := 1) (parts' := [(0, Iv n)]) (c := #[Iv n]) Tryd.underlying40 Tryd.sizeOf3 Tryd.zeroValue3 dc rfl kr ?_)))))))))
 intro w62 b61 aE
 have O := e.new aE
 have ab := O.blk (i := 0) rfl
 have aF := O.s2_b
 have aG := aF.emp1
 refine st (yp (src := own) (bytes := 8) (x1 := n) aG Vv rfl rfl ab (fun _ _ _ => (show _ from ⟨rfl, hn⟩)) (by first | omega | (simp only [List.length_append, List.length_cons, List.length_nil, List.length_take, List.length_drop]; omega)) rfl ?_)
 intro P w64 h
 have aH := h.row (i := 0) rfl
 have hr70s : _ * 8 ≤ _ := aH.2
 refine st (ze (v := P) rfl (zf (za kr (fun _ => (st (ze (v := .bool true) rfl (zf (zd (za kr (fun _ => (st (zb (v := vl) rfl (st (zb (v := Iw k) rfl ?_))))))))))))))
 have aI : k < l.length := bo
 refine st (zk (k := 1) (i := k) Tryd.underlying40 Tryd.sizeOf3 rfl hl.sl rfl aI ?_)
 have s : k < l.length := bo
 obtain ⟨t, I⟩ := hl.int s
 rw [← zm 0 s] at t I
 have ac := h.cells t (hl.foot (ne_of_lt s))
 refine st (zg (v := Iv ((l.getD k 0))) Tryd.isAgg3 rfl (ac.get (j := 0) rfl) (st (zb (v := Iv n) rfl (st (yq (k := .i64) (a := (l.getD k 0)) (b := n) rfl rfl (zf ?_))))))
 cases g : !decide ((l.getD k 0) = n)
 have g := zC g
 refine zn rfl (zv (za kr (fun _ => (st (zb (v := Iw k) rfl ?_)))))
 have aJ : InR ((k + 1 : Nat) : Int) := bo
 refine st (zV (r := ((k + 1 : Nat) : Int)) (k := .i64) (a := ((k : Nat) : Int)) (b := 1) rfl rfl (by rw [show (((k : Nat) : Int) + 1 : Int) = ((k + 1 : Nat) : Int) from bo]; exact zM aJ) (st (ze (v := Iw (k + 1)) rfl (zf ?_))))
 have Q : xD (l.take (k + 1)) n true = (xD (l.take k) n ld) ++ [n] ∧ Yn (l.take (k + 1)) n true := by
  rw [xr (by omega)]
  have m : Asc (l.take k ++ [l.getD k 0]) := by rw [← xr (by omega)]; exact Ya hasc _
  first | (exfalso; omega) | exact VK hw d.1 d.2 | exact VY hw m d g | exact We hw g
 rw [← Q.1] at h
 exact ⟨_, by omega, k + 1, P, true, _, rfl, zq ⟨rfl, rfl, rfl, rfl, rfl, trivial⟩, by omega, Q.2, h⟩
 have g := zR g
 refine zo rfl (za kr (fun _ => (st (zb (v := P) rfl (st (zb (v := vl) rfl (st (zb (v := Iw k) rfl ?_))))))))
 have aK : k < l.length := bo
 refine st (zk (k := 1) (i := k) Tryd.underlying40 Tryd.sizeOf3 rfl hl.sl rfl aK ?_)
 have ad := h.cells t (hl.foot (ne_of_lt s))
 refine st (zg (v := Iv ((l.getD k 0))) Tryd.isAgg3 rfl (ad.get (j := 0) rfl) (st (zD (k := 1) (parts' := [(0, Iv ((l.getD k 0)))]) (c := #[Iv ((l.getD k 0))]) Tryd.underlying40 Tryd.sizeOf3 Tryd.zeroValue3 dc rfl kr ?_)))
 intro w83 b82 aL
 have R := h.new aL
 have ae := R.blk (i := 0) rfl
 have aM := R.s2_b
 have aN := aM.emp1
 refine st (yp (src := own) (bytes := 8) (x1 := (l.getD k 0)) aN Vv rfl rfl ae (fun _ _ _ => (show _ from ⟨rfl, I⟩)) (by first | omega | (simp only [List.length_append, List.length_cons, List.length_nil, List.length_take, List.length_drop]; omega)) rfl ?_)
 intro ag w85 C
 have aO := C.row (i := 0) rfl
 have hr91s : _ * 8 ≤ _ := aO.2
 refine st (ze (v := ag) rfl (zf (za kr (fun _ => (st (zb (v := Iw k) rfl ?_))))))
 have aP : InR ((k + 1 : Nat) : Int) := bo
 refine st (zV (r := ((k + 1 : Nat) : Int)) (k := .i64) (a := ((k : Nat) : Int)) (b := 1) rfl rfl (by rw [show (((k : Nat) : Int) + 1 : Int) = ((k + 1 : Nat) : Int) from bo]; exact zM aP) (st (ze (v := Iw (k + 1)) rfl (zf ?_))))
 have S : xD (l.take (k + 1)) n true = (xD (l.take k) n ld) ++ [n] ++ [(l.getD k 0)] ∧ Yn (l.take (k + 1)) n true := by
  rw [xr (by omega)]
  have m : Asc (l.take k ++ [l.getD k 0]) := by rw [← xr (by omega)]; exact Ya hasc _
  first | (exfalso; omega) | exact VK hw d.1 d.2 | exact VY hw m d g | exact We hw g
 rw [← S.1] at C
 exact ⟨_, by omega, k + 1, ag, true, _, rfl, zq ⟨rfl, rfl, rfl, rfl, rfl, trivial⟩, by omega, S.2, C⟩

end Go.Proofs.YtlblilbmpdejgaaDoor
/- Steps of the proofs of this seat: part C12. -/
set_option maxRecDepth 8000
namespace Go.Proofs.YtlblilbmpdejgaaDoor
open Go.Proofs Go.RowKit

theorem KN {sh : List CelS} {c : List Cel} {k : Nat} {v : Value} (hlen : sh.length = c.length) (hn : ∀ i, i < k → (sh.getD i default).n = (c.getD i default).n) (hk : k < c.length) : ∀ i, i < k + 1 → ((sh.set k ⟨(c.getD k default).n, v⟩).getD i default).n = (c.getD i default).n := by
  intro i hi
  by_cases e : i = k
  · subst e; rw [ZK (by omega)]
  · rw [Yz (fun h => e h.symm)]; exact hn i (by omega)
theorem Jm {G : Nat → Prop} {W w : World} {Rs : List HP} {vc : Value} {c : List Cel} (hc : RdS W G vc c) (hS0 : Sep G W Rs w) : Ret Tryd.prog 74 [vc] w (fun r w' => ∃ (v : Value), r = (v : Value) ∧ Sep G W ((CelW v 42 3 c) :: Rs) w') := by
 have hcs : _ * 32 ≤ _ := hc.small
 refine zr (args := [vc]) Tryd.func74 rfl rfl ?_
 refine zd (za kr (fun _ => (st (ze (v := (Iz)) rfl (zf (zd (za kr (fun _ => (st (zb (v := vc) rfl (st (zJ (n := c.length) Tryd.underlying26 rfl hc.sl (st (Zh (α := CelS) (T := 42) (bytes := 32) (n := c.length) (x1 := (⟨0, Iz⟩ : CelS)) Tryd.underlying26 ⟨_, _, rfl, rfl, rfl, rfl, rfl, fun _ _ => ⟨rfl, ⟨by decide, rfl⟩⟩⟩ rfl rfl rfl (by show c.length * 32 ≤ 140737488355328; omega) ?_))))))))))))))
 intro w6 g bd he3 hl4 be
 have aS : Sep G W ((RowE (α := CelS) own 42 (Iy g c.length c.length) (List.replicate c.length (⟨0, Iz⟩ : CelS))) :: Rs) w6 := hS0.made bd be
 have bf := aS.row (i := 0) rfl
 have hr8s : _ * 32 ≤ _ := bf.2
 refine st (ze (v := (Iy g c.length c.length)) rfl (zf (zd (zd (za kr (fun _ => (st (ze (v := Iv 0) rfl (zf (zw ?_))))))))))
 have bg : Sep G W ((Star []) :: (RowE (α := CelS) own 42 (Iy g c.length c.length) (List.replicate c.length (⟨0, Iz⟩ : CelS))) :: Rs) w6 := aS.nilStar
 have aU := bg.mv1
 refine yd (fun mq σ R => ∃ (k : Nat) (shk : List CelS) (ρ : Env), mq = c.length - k ∧ σ = yh ρ [(0, vc), (3, (Iy g c.length c.length)), (4, Iw k)] ∧ (k ≤ c.length) ∧ (shk.length = c.length) ∧ (∀ i, i < k → (shk.getD i default).n = (c.getD i default).n) ∧ Sep G W ((RowE (α := CelS) own 42 (Iy g c.length c.length) shk) :: (Star (SetRows 3 (shk.take k) (c.take k))) :: Rs) R) ⟨0, List.replicate c.length (⟨0, Iz⟩ : CelS), _, rfl, zq ⟨rfl, rfl, rfl, trivial⟩, Nat.zero_le _, by rw [List.length_replicate], (fun i h => absurd h (Nat.not_lt_zero i)), aU⟩ ?_
 rintro m12 σ13 bh ⟨k, shk, ρl1, rfl, rfl, hkk, hshl, hshn, z⟩
 have am := z.row (i := 0) rfl
 have hr15s : _ * 32 ≤ _ := am.2
 refine zd (zd (za kr (fun _ => (st (zb (v := Iw k) rfl (st (zb (v := vc) rfl (st (zJ (n := c.length) Tryd.underlying26 rfl hc.sl (st (zL (k := .i64) (a := ((k : Nat) : Int)) (b := ((c.length : Nat) : Int)) rfl rfl (zf ?_))))))))))))
 cases A : decide (((k : Nat) : Int) < ((c.length : Nat) : Int))
 have A := fD A
 refine zn rfl (yc (zU (zd (za kr (fun _ => (st (zb (v := (Iy g c.length c.length)) rfl (st (ze (v := (Iy g c.length c.length)) rfl (zf (zt (zO Tryd.results74 (show _ = ((Iy g c.length c.length) : Value) from rfl) ?_))))))))))))
 have hkl : k = c.length := by omega
 rw [hkl, List.take_of_length_le (Nat.le_of_eq hshl), List.take_length] at z
 have aV : Sep G W ((CelW (Iy g c.length c.length) 42 3 c) :: Rs) bh := CelW.mk z ⟨hshl, fun i hi => hshn i om⟩
 refine ⟨(Iy g c.length c.length), rfl, aV⟩
 have A := tD A
 refine zo rfl (zv (zd (zw ?_)))
 refine WD4 ((fun TT aT => WF [fun vals R => Sep G W (aT :: TT) R, fun vals R => ∃ (d : Value), (vals 12 = (d : Value)) ∧ Sep G W ((RowE (α := Int) own 3 d ((c.getD k default).set)) :: aT :: TT) R, fun vals R => ∃ (d : Value), (vals 12 = (d : Value)) ∧ Sep G W ((RowE (α := CelS) own 42 (Iy g c.length c.length) (shk.set k (⟨(c.getD k default).n, d⟩ : CelS))) :: (RowE (α := Int) own 3 d ((c.getD k default).set)) :: TT) R]) ((Star (SetRows 3 (shk.take k) (c.take k))) :: Rs) (RowE (α := CelS) own 42 (Iy g c.length c.length) shk)) (AF [Vl 0 ((Iy g c.length c.length)), Vl 1 (Iw k), Vl 2 (vc), Vl 3 (Iw k), Vl 4 (Ix (sb vc) (so vc + k * 2)), Vl 5 (Ix (sb vc) (so vc + k * 2)), Vl 6 (Iv ((c.getD k default).n)), Vl 7 (vc), Vl 8 (Iw k), Vl 9 (Ix (sb vc) (so vc + k * 2)), Vl 10 (Ix (sb vc) (so vc + k * 2 + 1)), Vl 11 ((zi W (sb vc) (so vc + k * 2 + 1))), fun _ => True, fun vals => ∀ (d : Value), vals 12 = (d : Value) → vals 13 = (.agg #[Iv ((c.getD k default).n), d] : Value), Vl 14 (Ix (sb (Iy g c.length c.length)) (so (Iy g c.length c.length) + k * 2)), fun _ => True]) [[], [], [], [], [2, 3], [2, 3, 4], [2, 3, 4, 5], [], [], [7, 8], [7, 8, 9], [7, 8, 9, 10], [7, 8, 9, 10, 11], [2, 3, 4, 5, 6, 7, 8, 9, 10, 11, 12], (rg 14), (rg 15)] [12, 15] [(0, 1), (0, 1), (0, 1), (0, 1), (0, 1), (0, 1), (0, 1), (0, 0), (0, 0), (0, 0), (0, 0), (0, 0), (0, 0), (1, 1), (1, 1), (1, 1)] z ⟨?_, ?_, ?_, ?_, ?_, ?_, ?_, ?_, ?_, ?_, ?_, ?_, ?_, ?_, ?_, ?_, trivial⟩ ?_ (hlocA := yZ ⟨dA, dA, dA, dA, dA, dA, dA, dA, dA, dA, dA, dA, dT, fun vals B S h => fun d U => (S 13 (.inl rfl)).trans (h d ((S 12 (.inr dc)).symm.trans U)), dA, dT, trivial⟩)
 exact fun _ _ _ _ _ _ _ => obl rfl (zb (v := (Iy g c.length c.length)) rfl dR)
 exact fun _ _ _ _ _ _ _ => obl rfl (zb (v := Iw k) rfl dR)
 exact fun _ _ _ _ _ _ _ => obl rfl (zb (v := vc) rfl dR)
 exact fun _ _ _ _ _ _ _ => obl rfl (zb (v := Iw k) rfl dR)
 refine fun C _ _ aW aX V p => ?_
 have hkk : C = 0 ∨ C = 1 := by have h1 : 0 ≤ C := aW; have h2 : C ≤ 1 := aX; omega
 rcases hkk with rfl | rfl
 have hS198 : Sep _ _ _ _ := V
 refine obl rfl ?_
 have aq : k < c.length := bo
 exact zk (k := 2) (i := k) Tryd.underlying26 Tryd.sizeOf42 (p 2 dc) hc.sl (p 3 dc) aq dR
 obtain ⟨d, e, hS202⟩ := V
 refine obl rfl ?_
 have ar : k < c.length := bo
 exact zk (k := 2) (i := k) Tryd.underlying26 Tryd.sizeOf42 (p 2 dc) hc.sl (p 3 dc) ar dR
 exact fun _ _ _ _ _ _ au => obl rfl (yL (au 4 dc) dR)
 refine fun D _ _ aY aZ X Y => ?_
 have hkk : D = 0 ∨ D = 1 := by have h1 : 0 ≤ D := aY; have h2 : D ≤ 1 := aZ; omega
 rcases hkk with rfl | rfl
 have av : Sep _ _ _ _ := X
 refine obl rfl ?_
 have E : k < c.length := bo
 obtain ⟨M, q, ai⟩ := hc.cel E
 rw [← zm default E] at M q ai
 have hsm223 : ((c.getD k default).set).length * 8 ≤ 140737488355328 := q.small
 have an := av.cells M (hc.foot (ne_of_lt E))
 exact zg (v := Iv ((c.getD k default).n)) Tryd.isAgg3 (Y 5 dc) (an.get (j := 0) rfl) dR
 obtain ⟨d, e, aw⟩ := X
 refine obl rfl ?_
 have F : k < c.length := bo
 obtain ⟨N, s, aj⟩ := hc.cel F
 rw [← zm default F] at N s aj
 have hsm229 : ((c.getD k default).set).length * 8 ≤ 140737488355328 := s.small
 have ao := aw.cells N (hc.foot (ne_of_lt F))
 exact zg (v := Iv ((c.getD k default).n)) Tryd.isAgg3 (Y 5 dc) (ao.get (j := 0) rfl) dR
 exact fun _ _ _ _ _ _ _ => obl rfl (zb (v := vc) rfl dR)
 exact fun _ _ _ _ _ _ _ => obl rfl (zb (v := Iw k) rfl dR)
 refine ob1 0 fun _ _ _ Z => (obl rfl ?_)
 have ax : k < c.length := bo
 exact zk (k := 2) (i := k) Tryd.underlying26 Tryd.sizeOf42 (Z 7 dc) hc.sl (Z 8 dc) ax dR
 exact fun _ _ _ _ _ _ ay => obl rfl (yN (ay 9 dc) dR)
 refine ob1 0 fun _ _ (az : Sep _ _ _ _) aA => (obl rfl ?_)
 have H : k < c.length := bo
 obtain ⟨O, t, ak⟩ := hc.cel H
 rw [← zm default H] at O t ak
 have hsm270 : ((c.getD k default).set).length * 8 ≤ 140737488355328 := t.small
 have ap := az.cells O (hc.foot (ne_of_lt H))
 exact zg (v := (zi W (sb vc) (so vc + k * 2 + 1))) Tryd.isAgg40 (aA 10 dc) (ap.get (j := 1) rfl) dR
 refine ob1 0 fun vals _ (aa : Sep _ _ _ _) aB => (obl rfl ?_)
 have I : k < c.length := bo
 obtain ⟨P, m, al⟩ := hc.cel I
 rw [← zm default I] at P m al
 have hsm122 : ((c.getD k default).set).length * 8 ≤ 140737488355328 := m.small
 have hcw123 := aa.cells P (hc.foot (ne_of_lt I))
 refine (zu (f := 58) (vals := [(zi W (sb vc) (so vc + k * 2 + 1))]) (cap := []) rfl (yP ⟨(aB 11 dc), trivial⟩) Tryd.call58 (YR (l := (c.getD k default).set) (vl := (zi W (sb vc) (so vc + k * 2 + 1))) m aa) ?_)
 rintro d w125 ⟨_, rfl, ab⟩
 have aC := ab.row (i := 0) rfl
 have hr127s : _ * 8 ≤ _ := aC.2
 exact fun B S ac => ⟨(Exists.intro d (And.intro S ab)), trivial⟩
 refine ob1 1 fun _ _ aD aE => ?_
 obtain ⟨d, e, aF⟩ := aD
 refine obl rfl ?_
 have ad := aF.row (i := 0) rfl
 have hr281s : _ * 8 ≤ _ := ad.2
 refine zQ (parts' := [(0, Iv ((c.getD k default).n)), (1, d)]) (v := .agg #[Iv ((c.getD k default).n), d]) (xF ⟨rfl, (aE 6 (by decide)), rfl, e, trivial⟩) (by obtain ⟨_, _, aG, _⟩ := ad.1; rw [show d = Value.slice _ _ _ from aG]; simp [Instr.build, Instr.fill, Ev.cells, go_sem, Mv.cells, Fld.cells, Typ.cells, Prj.cells, Dcl.cells, Cel.cells, AskR.cells, Ask.cells]) (fun B S ac => ⟨rfl, ?_⟩)
 intro v124q U
 rw [ac 12 (by decide)] at U; cases e.symm.trans U
 exact S
 refine ob1 1 fun _ _ aH ae => ?_
 obtain ⟨d, e, hS288⟩ := aH
 refine obl rfl ?_
 have aI : k < shk.length := bo
 exact zk (k := 2) (i := k) Tryd.underlying26 Tryd.sizeOf42 (ae 0 dc) am.1 (ae 1 dc) aI dR
 refine ob1 1 fun vals _ aJ af => ?_
 obtain ⟨d, e, J⟩ := aJ
 have ba : vals 13 = (.agg #[Iv ((c.getD k default).n), d] : Value) := af 13 dc d e
 refine obl rfl ?_
 have K : k < c.length := bo
 obtain ⟨Q, x, y⟩ := hc.cel K
 rw [← zm default K] at Q x y
 have hsm161 : ((c.getD k default).set).length * 8 ≤ 140737488355328 := x.small
 have hcw162 := J.cells Q (hc.foot (ne_of_lt K))
 have L := J.row (i := 0) rfl
 have hr163s : _ * 8 ≤ _ := L.2
 have aK := J.mv1
 have aL := aK.emp1
 refine (yE (α := CelS) (j := k) (o := 0) (u := .agg #[Iv ((c.getD k default).n), d]) (us := [Iv ((c.getD k default).n), d]) (x1 := (⟨(c.getD k default).n, d⟩ : CelS)) aL Tryd.sizeOf42 bo (af 14 (by decide)) ba rfl (Nat.le_of_ble_eq_true rfl) (ya ⟨rfl, L.1.one, trivial⟩) (fun _ _ _ hel _ => (by rw [← zm default (by omega)] at hel; obtain ⟨rfl, hok⟩ := hel; exact ⟨rfl, ⟨y.n, L.1.one⟩⟩)) ?_)
 intro w158 ag
 have aM := ag.row (i := 0) rfl
 have hr167s : _ * 32 ≤ _ := aM.2
 exact fun B S ac => ⟨(Exists.intro d (And.intro ((ac 12 dc).trans e) ag)), trivial⟩
 intro vals bb aN hA294
 obtain ⟨d, e, aO⟩ := aN
 refine yf (kv := [(0, vc), (3, (Iy g c.length c.length)), (4, Iw k), (8, Iw k), (9, vc), (10, Iw c.length), (11, .bool true)]) ⟨rfl, rfl, rfl, rfl, rfl, rfl, rfl, trivial⟩ (fun ρw292 => (zf (za kr (fun _ => (st (zb (v := Iw k) rfl ?_))))))
 have aP : InR ((k + 1 : Nat) : Int) := bo
 refine st (zV (r := ((k + 1 : Nat) : Int)) (k := .i64) (a := ((k : Nat) : Int)) (b := 1) rfl rfl (by rw [show (((k : Nat) : Int) + 1 : Int) = ((k + 1 : Nat) : Int) from bo]; exact zM aP) (st (ze (v := Iw (k + 1)) rfl (zf ?_))))
 have aQ := aO.s3_bca
 have ah : Sep G W ((Star (SetRows 3 (shk.take k) (c.take k) ++ [(RowE (α := Int) own 3 d ((c.getD k default).set))])) :: (RowE (α := CelS) own 42 (Iy g c.length c.length) (shk.set k (⟨(c.getD k default).n, d⟩ : CelS))) :: Rs) bb := aQ.snocStar
 rw [← SetRows.step (Ti := 3) (⟨(c.getD k default).n, d⟩ : CelS) hshl (by omega)] at ah
 have aR := ah.mv1
 exact ⟨_, by omega, k + 1, shk.set k (⟨(c.getD k default).n, d⟩ : CelS), _, rfl, zq ⟨rfl, rfl, rfl, trivial⟩, by omega, by rw [List.length_set]; exact hshl, (KN hshl hshn (by omega)), aR⟩

end Go.Proofs.YtlblilbmpdejgaaDoor
/- Steps of the proofs of this seat: part C13. -/
set_option maxRecDepth 8000
namespace Go.Proofs.YtlblilbmpdejgaaDoor
open Go.Proofs Go.RowKit

end Go.Proofs.YtlblilbmpdejgaaDoor
/- Steps of the proofs of this seat: part C14. -/
set_option maxRecDepth 8000
set_option maxHeartbeats 4000000
namespace Go.Proofs.YtlblilbmpdejgaaDoor
open Go.Proofs Go.RowKit

theorem VG {t : Typ} : Right t (List.replicate t.fields.length ⟨0, []⟩) := by
  have key : ∀ i, i < (List.replicate t.fields.length (⟨0, []⟩ : Cel)).length → (List.replicate t.fields.length (⟨0, []⟩ : Cel)).getD i default = ⟨0, []⟩ := by
    intro i hi
    rw [zm _ hi, List.getElem_replicate]
  refine ⟨by simp, fun i hi _ => ?_, fun i hi _ => ?_, fun i hi _ => ?_, fun i hi => ?_, fun i hi => ?_⟩ <;> rw [key i hi]
  · exact Int.le_refl _
  · simp
  · exact List.Pairwise.nil
end Go.Proofs.YtlblilbmpdejgaaDoor
/- Steps of the proofs of this seat: part C15. -/
set_option maxRecDepth 8000
set_option maxHeartbeats 4000000
namespace Go.Proofs.YtlblilbmpdejgaaDoor
open Go.Proofs Go.RowKit

theorem QI {l : List Int} {k : Nat} {n : Int} (hk : k < l.length) (h : l.getD k 0 = n) : n ∈ l := by rw [zm _ hk] at h; rw [← h]; exact List.getElem_mem hk
theorem Wk {l : List Int} {n : Int} (h : ∀ i, i < l.length → ¬ l.getD i 0 = n) : ¬ n ∈ l := by
  intro hm
  obtain ⟨i, hi, e⟩ := List.getElem_of_mem hm
  exact h i hi (by rw [zm _ hi]; exact e)
theorem D_New {G : Nat → Prop} {W w : World} {Rs : List HP} {t : Typ} {dt0 : Value} (hdt0 : RdS W G dt0 t.fields) (ot : t.Ok) (hS0 : Sep G W Rs w) : Ret Tryd.prog 48 [.agg (t.cells dt0).toArray] w (fun r w' => ∃ (v : Value), r = (v : Value) ∧ Sep G W ((RowE (α := Cel) own 42 v (List.replicate t.fields.length (⟨0, []⟩ : Cel))) :: Rs) w') := by
 have hdt0s : _ * 48 ≤ _ := hdt0.small
 refine zr (args := [.agg (t.cells dt0).toArray]) Tryd.func48 rfl rfl ?_
 refine zd (za kr (fun _ => (st (zT (v := .agg (t.cells dt0).toArray) rfl ?_))))
 intro w3 b2 f
 have c := hS0.new f
 refine st (ze (v := (Iz)) rfl (zf (zd (za kr (fun _ => (st (yA rfl (st (zg (v := dt0) Tryd.isAgg31 rfl (zh (c.blk (i := 0) rfl) rfl) (st (zJ (n := t.fields.length) Tryd.underlying31 rfl hdt0.sl (st (Zh (α := Cel) (T := 42) (bytes := 32) (n := t.fields.length) (x1 := (⟨0, []⟩ : Cel)) Tryd.underlying26 ⟨_, _, rfl, rfl, rfl, rfl, rfl, fun _ _ => ⟨_, rfl, RdS.nil _ _, ⟨by decide⟩⟩⟩ rfl rfl rfl (by show t.fields.length * 32 ≤ 140737488355328; omega) ?_)))))))))))))
 intro g b h he7 hl8 j
 have a : Sep G W ((RowE (α := Cel) own 42 (Iy b t.fields.length t.fields.length) (List.replicate t.fields.length (⟨0, []⟩ : Cel))) :: (Blk b2 (t.cells dt0).toArray 33) :: Rs) g := c.made h j
 have d := a.row (i := 0) rfl
 have hr12s : _ * 32 ≤ _ := d.2
 refine st (ze (v := (Iy b t.fields.length t.fields.length)) rfl (zf (zt (zO Tryd.results48 (show _ = ((Iy b t.fields.length t.fields.length) : Value) from rfl) ?_))))
 have e := a.s2_a
 refine ⟨(Iy b t.fields.length t.fields.length), rfl, e⟩

end Go.Proofs.YtlblilbmpdejgaaDoor
/- Steps of the proofs of this seat: part C17. -/
set_option maxRecDepth 8000
set_option maxHeartbeats 4000000
namespace Go.Proofs.YtlblilbmpdejgaaDoor
open Go.Proofs Go.RowKit

instance (t : Typ) (c : List Cel) (f op arg : Int) : Decidable (Yy t c f op arg) := by unfold Yy Asc; infer_instance
end Go.Proofs.YtlblilbmpdejgaaDoor
/- Steps of the proofs of this seat: part C18. -/
set_option maxRecDepth 8000
set_option maxHeartbeats 4000000
namespace Go.Proofs.YtlblilbmpdejgaaDoor
open Go.Proofs Go.RowKit

end Go.Proofs.YtlblilbmpdejgaaDoor
/- A listed table of integers is a shared list; the lifted law of a row that lists variables. -/
namespace Go.Proofs.YtlblilbmpdejgaaDoor
open Go.ChangeShapes Go.WideShapes Go.ChangeAt Go.RowKit

theorem QT {P : Program} {W : World} {name : String} {zs : List Int} {g : Nat} (hg : P.globalNamed name = some g) (h : Lib.TabIs P W name .i64 zs) (hz : ∀ z ∈ zs, InR z) (hs : zs.length * 8 ≤ 140737488355328) :
    RdS W (xp W) (.slice (some ⟨g, 0, none⟩) zs.length zs.length) zs := by
  have hc : ∀ i, W.cell? ⟨g, i, none⟩ = (zs.map fun z => Value.int .i64 z)[i]? := fun i => by
    rw [World.var?_cell hg h i]; simp
  refine ⟨⟨_, _, rfl, Nat.le_refl _, fun _ => ⟨_, _, rfl⟩⟩, fun hne => ?_, hs, fun i hi => ?_⟩
  · have h0 : 0 < zs.length := List.length_pos_iff.2 hne
    have h1 := hc 0
    rw [List.getElem?_eq_getElem (by simpa using h0)] at h1
    exact Ze h1
  · refine ⟨[.int .i64 zs[i]], fun j hj => ?_, ⟨rfl, hz _ (List.getElem_mem hi)⟩⟩
    obtain rfl : j = 0 := by simp at hj; omega
    have h1 := hc i
    rw [List.getElem?_eq_getElem (by simpa using hi)] at h1
    have e : (so (.slice (some ⟨g, 0, none⟩) zs.length zs.length) + i * Rep.k Int + 0) = i := by
      show 0 + i * 1 + 0 = i
      omega
    show W.cell? ⟨g, so (.slice (some ⟨g, 0, none⟩) zs.length zs.length) + i * Rep.k Int + 0, none⟩ = _
    rw [e, h1]
    simp

theorem Xs {P : Program} {d : Option Tmp} {ty : TypeId} {pos : String} {af : Array Edge} {g : Option (Nat × Bool)} {σ : Env} {w : World} {K : Value → World → Prop} {t e : TypeId} {k n b o off : Nat} {i : Int} {x y : Operand} {ki : IntKind} (hU : P.underlying t = some (.array n e)) (hS : ∀ w, (sizeOf e).run P w = .ok k w) (hx : ev σ x = .pointer (some ⟨b, o, none⟩)) (hy : ev σ y = .int ki i)
    (hi : 0 ≤ i ∧ i < n) (ho : i.toNat * k = off) (h : K (.pointer (some ⟨b, o + off, none⟩)) w) : opV P ⟨d, .indexAddr t x y, ty, pos, af, g⟩ σ w K := by
  obtain ⟨m, rfl⟩ := Int.eq_ofNat_of_zero_le hi.1
  exact Xp (i := m) hU hS hx hy (by omega) (by simpa using ho) h

theorem YC {H : Type} {enc : TypeId × Value → H} {C : Checked} {os : Os} {f : FuncId} {fn : Func} {s : ChangeSpec} {tb : TypeId} {laid : List (String × DataW Unit)}
    (own : ownKnob C.prog.godebug = none) (started : os.Started) (noInit : C.prog.inits.idxOf? f = none) (hfn : C.prog.funcs[f]? = some fn)
    (hl : laidOutB C.prog = true) (hrt : fn.resultTypes = #[tb]) (htb : C.prog.underlying tb = some .bool) (hsv : s.vars = [])
    (hsf : ∀ ds : List (DataW H), ds.length = fn.params.size → s.fn H ds = { results := [.lit (.bool true)], args := ds })
    (hps : ∀ t ∈ fn.params.toList, C.prog.readableRec t = true ∧ t < C.prog.types.size)
    (witness : ∃ (w : World) (tape : Tape) (i : Input), w.os = os ∧ (w.forCall tape i).Shaped C.prog ∧ i.vars = [] ∧ Input.okWide C.prog (w.forCall tape i) .any w.heap.size f i ∧
      ((s.pre enc C.prog fn [] false (w.forCall tape i).memory i.args ∧ laidMetH C.prog laid (w.forCall tape i).memory) ∧ sizedMet enc C.prog fn (OpenSpec.ofChange s) false (w.forCall tape i).memory i.args) ∧ ({} : Assume).holds C.prog (lone (Frame.enter C.prog f i.args .normal) [] (w.forCall tape i)))
    (contract : ∀ (W : World) (base : Nat) (args : Array Value) (ds : List (DataW H)) (ps : List MemPlace),
      (∀ (j : Nat) t v, fn.params[j]? = some t → args[j]? = some v → Value.okWide C.prog W .any base t v) →
      DataW.TrodAll enc C.prog W 0 (fun _ => true) true fn.params.toList args.toList ds ps →
      (∀ (j : Nat) t d, fn.params.toList[j]? = some t → ds[j]? = some d → Zs C.prog t d) → laidMetH C.prog laid W →
      Ret C.prog f args.toList W (fun r w' => r = .bool true ∧ Ext W w')) :
    ReturnsInHanded {} C os f .any (fun w args => (s.pre enc C.prog fn [] false w args ∧ laidMetH C.prog laid w) ∧ sizedMet enc C.prog fn (OpenSpec.ofChange s) false w args) (s.post enc C.prog fn false true false false) := by
  refine returnsInHanded_of_change_and (C := C) (X := fun w _ => laidMetH C.prog laid w) (fun _ _ _ hh h => h.of_heap hh) own started noInit hfn witness ?_
  intro W base args ds gs before hval hW _ hsz hL _
  have hW' := hW
  obtain ⟨p, q, hA, hV, rfl, hfz, hnd⟩ := hW
  have hlt := hW'.lt
  rw [hsv] at hV
  obtain ⟨rfl, rfl⟩ := trodVars_none hV
  simp only [List.append_nil] at hW' hlt
  have hlen : ds.length = fn.params.size := by
    have : ∀ {ts : List TypeId} {vs : List Value} {ds : List (DataW H)} {ps : List MemPlace}, DataW.TrodAll enc C.prog W 0 (fun _ => true) true ts vs ds ps → ds.length = ts.length := by
      intro ts
      induction ts with
      | nil => intro vs ds ps h; obtain ⟨_, rfl, _⟩ := trodAll_nil h; rfl
      | cons t ts ih => intro vs ds ps h; obtain ⟨_, _, _, ds1, _, _, _, rfl, _, _, h2⟩ := trodAll_cons h; simp [ih h2]
    simpa using this hA
  have hc := contract W base args ds p hval hA (fun j t d ht hd n hn => by
    have := List.all_eq_true.1 hsz n (by
      rw [List.append_nil]
      refine DataW.weights_mem_each (j := j) (t := t) ?_ hd n hn
      rw [List.getElem?_append_left (by exact (List.getElem?_eq_some_iff.1 ht).1)]
      exact ht)
    simpa using this) hL
  have hc' : Calls C.prog f args W fun e w' => ∃ v, e = .returned v ∧ v = .bool true ∧ Ext W w' := by
    have : args.toList.toArray = args := by simp
    rw [← this]; exact hc
  refine hc'.mono fun e W' ⟨v, he, hv, hx⟩ => ⟨v, he, ?_⟩
  subst hv
  have hb := hx.below
  refine ⟨ds, [], p, [], p, [], hW', ?_, ?_, ?_, hb.frame _, fun h => by cases h⟩
  · rw [List.append_nil, hsf ds hlen, hrt]
    exact trodAll_mk1 (shut_bool htb _)
  · rw [List.append_nil, hsf ds hlen]
    exact ZI hl hb hps hA (fun x hx => hlt x hx)
  · rw [List.append_nil, hsf ds hlen, hsv]
    rfl
end Go.Proofs.YtlblilbmpdejgaaDoor
/- Steps of the proofs of this seat: part K1. -/
set_option maxRecDepth 8000
set_option maxHeartbeats 4000000
namespace Go.Proofs.YtlblilbmpdejgaaDoor
open Go.Proofs Go.RowKit

def kindsL : List Int := [0, 1, 2, 3, 3, 4]
theorem Vu : kindsL.length = 6 := rfl
def yr (d : Dcl) (ty f : Int) : Bool := (decide (0 ≤ ty) && decide (ty ≤ ((d.types.length : Nat) : Int) - 1)) && (decide (0 ≤ f) && decide (f ≤ (((d.types.getD ty.toNat default).fields.length : Nat) : Int) - 1))
def zI (d : Dcl) (ty f : Int) : Fld := if yr d ty f = true then (d.types.getD ty.toNat default).fields.getD f.toNat default else ⟨0, 0, false, []⟩
def yJ (d : Dcl) (ty f op arg : Int) : Int :=
  if (!yr d ty f) = true then 8 else if (!(decide (1 ≤ op) && decide (op ≤ 5)) || !decide (kindsL.getD op.toNat 0 = (zI d ty f).kind)) = true then 2
  else if (decide (op = 1) && decide (arg = 0)) = true then 1 else if (decide (op = 5) && !(decide (0 ≤ arg) && decide (arg ≤ (((zI d ty f).moves.length : Nat) : Int) - 1))) = true then 1 else 0
theorem Yc {d : Dcl} {ty f op arg : Int} (h : yJ d ty f op arg = 0) : 0 ≤ ty ∧ ty < d.types.length ∧ Fits (d.types.getD ty.toNat default) f op arg := by
  unfold yJ at h
  split at h
  · cases h
  rename_i h1
  split at h
  · cases h
  rename_i h2
  split at h
  · cases h
  rename_i h3
  split at h
  · cases h
  rename_i h4
  have hB : yr d ty f = true := by simpa using h1
  have hz : zI d ty f = (d.types.getD ty.toNat default).fields.getD f.toNat default := by unfold zI; rw [hB]; rfl
  rw [hz] at h2 h4
  unfold yr at hB
  simp only [Bool.and_eq_true, decide_eq_true_eq] at hB
  simp only [Bool.or_eq_true, Bool.not_eq_true', Bool.and_eq_false_iff, Bool.and_eq_true, decide_eq_true_eq, decide_eq_false_iff_not, not_or, Decidable.not_not, not_and] at h2 h3 h4
  refine ⟨hB.1.1, by omega, ⟨hB.2.1, by omega, ?_⟩⟩
  have h5 : op = 1 ∨ op = 2 ∨ op = 3 ∨ op = 4 ∨ op = 5 := by omega
  have h6 := h2.2
  unfold yK
  rcases h5 with rfl | rfl | rfl | rfl | rfl
  · exact .inl ⟨rfl, h6.symm⟩
  · exact .inr (.inl ⟨rfl, h6.symm⟩)
  · exact .inr (.inr (.inl ⟨.inl rfl, h6.symm⟩))
  · exact .inr (.inr (.inl ⟨.inr rfl, h6.symm⟩))
  · have := h4 rfl
    exact .inr (.inr (.inr ⟨rfl, h6.symm, by omega, by omega⟩))
instance : Flat Mv := ⟨fun h => h⟩
theorem ZZ {G : Nat → Prop} {W w : World} {Rs : List HP} {x : Int} (hx : InR x) {lo : Int} (hlo : InR lo) {hi : Int} (hhi : InR hi) (hS0 : Sep G W Rs w) : Ret Tryd.prog 51 [.int .i64 (x), .int .i64 (lo), .int .i64 (hi)] w (fun r w' => r = (.bool ((decide (lo ≤ x) && decide (x ≤ hi))) : Value) ∧ Sep G W Rs w') := by
 refine zr (args := [Iv x, Iv lo, Iv hi]) Tryd.func51 rfl rfl ?_
 refine zd (za kr (fun _ => (st (ze (v := .bool false) rfl (zf (zd (zF kr (st (zb (v := Iv x) rfl (st (zb (v := Iv lo) rfl (st (yY (k := .i64) (a := x) (b := lo) rfl rfl (st (zb (v := .bool (decide (lo ≤ x))) rfl (stc (V := Iv x) rfl rfl (fun g => ?_) ?_))))))))))))))))
 have d := g
 have d := tD d
 exact zb (v := Iv x) rfl ⟨rfl, rfl⟩
 refine stc (V := Iv hi) rfl rfl (fun h => ?_) ?_
 have e := h
 have e := tD e
 exact zb (v := Iv hi) rfl ⟨rfl, rfl⟩
 refine stc (V := .bool (decide (x ≤ hi))) rfl rfl (fun c => ?_) ?_
 have f := c
 have f := tD f
 exact Jj (k := .i64) (a := x) (b := hi) (show _ = (Iv x : Value) from (if_pos c)) (show _ = (Iv hi : Value) from (if_pos c)) ⟨rfl, rfl⟩
 refine st (zx (b := decide (lo ≤ x)) (b' := decide (x ≤ hi)) rfl (fun hbp => (show _ = (.bool (decide (x ≤ hi)) : Value) from (if_pos hbp))) (st (ze (v := .bool ((decide (lo ≤ x)) && (decide (x ≤ hi)))) rfl (zf (zt (zO Tryd.results51 (show _ = (.bool ((decide (lo ≤ x)) && (decide (x ≤ hi))) : Value) from rfl) ?_))))))
 refine ⟨rfl, hS0⟩

theorem XG {G : Nat → Prop} {W w : World} {Rs : List HP} {vl : Value} {l : List Mv} (hl : RdS W G vl l) (hS0 : Sep G W Rs w) : Ret Tryd.prog 67 [vl] w (fun r w' => ∃ (v : Value), r = (v : Value) ∧ Sep G W ((RowE (α := Mv) own 115 v l) :: Rs) w') := by
 have hls : _ * 32 ≤ _ := hl.small
 refine zr (args := [vl]) Tryd.func67 rfl rfl ?_
 refine zd (za kr (fun _ => (st (ze (v := (Iz)) rfl (zf (zd (zd (za kr (fun _ => (st (zb (v := vl) rfl (st (xL (v := vl) Tryd.underlying77 rfl hl.sl (zf ?_))))))))))))))
 cases j : xH vl
 refine zn rfl (zv (zd (za kr (fun _ => (st (zD (k := 4) (parts' := []) (c := #[]) Tryd.underlying77 Tryd.sizeOf115 Tryd.zeroValue115 dc rfl kr ?_))))))
 intro q s m
 have n := hS0.new m
 refine st (zb (v := vl) rfl ?_)
 have d : Sep G W ((RowE (α := Mv) own 115 (Iy s 0 0) ([] : List Mv)) :: Rs) q := Sep.blkRow (src := own) (l := ([] : List Mv)) (css := []) n rfl trivial (by first | decide | (simp only [List.length_cons, List.length_nil]; decide))
 have e := d.row (i := 0) rfl
 have hr10s : _ * 32 ≤ _ := e.2
 refine st (xx (src := own) (bytes := 32) d Kh rfl rfl hl (by first | omega | (simp only [List.length_append, List.length_cons, List.length_nil, List.length_take, List.length_drop]; omega)) rfl (hq' := fun _ _ h _ _ => Xc h) ?_)
 intro b t a
 have a : Sep G W ((RowE (α := Mv) own 115 b l) :: Rs) t := a
 have f := a.row (i := 0) rfl
 have hr11s : _ * 32 ≤ _ := f.2
 refine st (ze (v := b) rfl (zf (zt (zO Tryd.results67 (show _ = (b : Value) from rfl) ?_))))
 refine ⟨b, rfl, a⟩
 have o := ZB hl.sl j
 refine zo rfl (zd (za kr (fun _ => (st (ze (v := (Iz)) rfl (zf (zt (zO Tryd.results67 (show _ = ((Iz) : Value) from rfl) ?_))))))))
 have g : Sep G W ((RowE (α := Mv) own 115 (Iz) ([] : List Mv)) :: Rs) w := hS0.rowNil own 115
 have p : l = [] := List.length_eq_zero_iff.1 o
 subst p
 refine ⟨(Iz), rfl, g⟩

theorem QQ {G : Nat → Prop} {W w : World} {Rs : List HP} {d : Dcl} {dd0 : Value} (hdd0 : RdS W G dd0 d.types) {dd1 : Value} (hdd1 : RdS W G dd1 d.projs) (od : d.Ok) {ty : Int} (hty : InR ty) {f : Int} (hf : InR f) (hS0 : Sep G W Rs w) : Ret Tryd.prog 40 [.agg (d.cells dd0 dd1).toArray, .int .i64 (ty), .int .i64 (f)] w (fun r w' => ∃ (v : Value), r = (.tuple #[.agg ((zI d ty f).cells v).toArray, .bool ((yr d ty f))] : Value) ∧ ((zI d ty f).Ok) ∧ Sep G W ((RowE (α := Mv) own 115 v ((zI d ty f).moves)) :: Rs) w') := by
 have hdd0s : _ * 24 ≤ _ := hdd0.small
 have hdd1s : _ * 40 ≤ _ := hdd1.small
 refine zr (args := [.agg (d.cells dd0 dd1).toArray, Iv ty, Iv f]) Tryd.func40 rfl rfl ?_
 refine zd (za kr (fun _ => (st (zT (v := .agg (d.cells dd0 dd1).toArray) rfl ?_))))
 intro w3 b2 aP
 have aQ := hS0.new aP
 refine st (zB Tryd.zeroValue79 ?_)
 intro w7 O aR
 have aj := aQ.new aR
 refine st (ze (v := .bool false) rfl (zf (zd (zd (zF kr (st (zb (v := Iv ty) rfl (st (yo rfl (st (zg (v := dd0) Tryd.isAgg22 rfl (zh (aj.blk (i := 1) rfl) rfl) (st (zJ (n := d.types.length) Tryd.underlying22 rfl hdd0.sl ?_)))))))))))))
 have ak : InR (((d.types.length : Nat) : Int) - 1) := by omega
 refine st (Wd (r := ((d.types.length : Nat) : Int) - 1) (k := .i64) (a := ((d.types.length : Nat) : Int)) (b := 1) rfl rfl (zM ak) (st (zu (f := 51) (vals := [Iv ty, Iv 0, Iv (((d.types.length : Nat) : Int) - 1)]) (cap := []) rfl rfl Tryd.call51 (ZZ (x := ty) (lo := 0) (hi := ((d.types.length : Nat) : Int) - 1) hty dc ak aj) ?_)))
 rintro _ w10 ⟨rfl, g⟩
 refine st (yt (a := (decide (0 ≤ ty) && decide (ty ≤ (((d.types.length : Nat) : Int) - 1)))) rfl (st (zb (v := .bool (!(decide (0 ≤ ty) && decide (ty ≤ (((d.types.length : Nat) : Int) - 1))))) rfl (stc (V := Iv f) rfl rfl (fun al => ?_) ?_))))
 have am := al
 try simp only [zj] at am
 exact zb (v := Iv f) rfl ⟨rfl, rfl⟩
 refine stc (V := Ix b2 0) rfl rfl (fun an => ?_) ?_
 have ao := an
 try simp only [zj] at ao
 exact yo rfl ⟨rfl, rfl⟩
 refine stc (V := dd0) rfl rfl (fun P => ?_) ?_
 have ap := P
 try simp only [zj] at ap
 exact zg (v := dd0) Tryd.isAgg22 (show _ = (Ix b2 0 : Value) from (if_pos P)) (zh (g.blk (i := 1) rfl) rfl) ⟨rfl, rfl⟩
 refine stc (V := Iv ty) rfl rfl (fun aq => ?_) ?_
 have ar := aq
 try simp only [zj] at ar
 exact zb (v := Iv ty) rfl ⟨rfl, rfl⟩
 refine stc (V := Ix (sb dd0) (so dd0 + ty.toNat * 1)) rfl rfl (fun A => ?_) ?_
 have au := A
 try simp only [zj] at au
 have hi22 : ty.toNat < d.types.length := bo
 exact zz (k := 1) (i := ty) Tryd.underlying22 Tryd.sizeOf33 (show _ = (dd0 : Value) from (if_pos A)) hdd0.sl (show _ = (Iv ty : Value) from (if_pos A)) ⟨by omega, by omega⟩ ⟨rfl, rfl⟩
 refine stc (V := Ix (sb dd0) (so dd0 + ty.toNat * 1)) rfl rfl (fun Q => ?_) ?_
 have av := Q
 try simp only [zj] at av
 exact yA (show _ = (Ix (sb dd0) (so dd0 + ty.toNat * 1) : Value) from (if_pos Q)) ⟨rfl, rfl⟩
 refine stc (V := (zi W (sb dd0) (so dd0 + ty.toNat * 1 + 0))) rfl rfl (fun R => ?_) ?_
 have aw := R
 try simp only [zj] at aw
 have B : ty.toNat < d.types.length := bo
 obtain ⟨K, q, S⟩ := hdd0.typ B
 rw [← zm default B] at K q S
 have hsm29 : ((d.types.getD ty.toNat default).fields).length * 48 ≤ 140737488355328 := q.small
 have ag := g.cells K (hdd0.foot (ne_of_lt B))
 exact zg (v := (zi W (sb dd0) (so dd0 + ty.toNat * 1 + 0))) Tryd.isAgg31 (show _ = (Ix (sb dd0) (so dd0 + ty.toNat * 1) : Value) from (if_pos R)) (ag.get (j := 0) rfl) ⟨rfl, rfl⟩
 refine stc (V := Iw (((d.types.getD ty.toNat default).fields).length)) rfl rfl (fun T => ?_) ?_
 have ax := T
 try simp only [zj] at ax
 have C : ty.toNat < d.types.length := bo
 obtain ⟨L, m, U⟩ := hdd0.typ C
 rw [← zm default C] at L m U
 have hsm35 : ((d.types.getD ty.toNat default).fields).length * 48 ≤ 140737488355328 := m.small
 have hcw36 := g.cells L (hdd0.foot (ne_of_lt C))
 exact zJ (n := ((d.types.getD ty.toNat default).fields).length) Tryd.underlying31 (show _ = ((zi W (sb dd0) (so dd0 + ty.toNat * 1 + 0)) : Value) from (if_pos T)) m.sl ⟨rfl, rfl⟩
 refine stc (V := Iv (((((d.types.getD ty.toNat default).fields).length : Nat) : Int) - 1)) rfl rfl (fun X => ?_) ?_
 have ay := X
 try simp only [zj] at ay
 have D : ty.toNat < d.types.length := bo
 obtain ⟨M, s, Y⟩ := hdd0.typ D
 rw [← zm default D] at M s Y
 have hsm41 : ((d.types.getD ty.toNat default).fields).length * 48 ≤ 140737488355328 := s.small
 have hcw42 := g.cells M (hdd0.foot (ne_of_lt D))
 have az : InR (((((d.types.getD ty.toNat default).fields).length : Nat) : Int) - 1) := by omega
 exact Wd (r := ((((d.types.getD ty.toNat default).fields).length : Nat) : Int) - 1) (k := .i64) (a := ((((d.types.getD ty.toNat default).fields).length : Nat) : Int)) (b := 1) (show _ = (Iw (((d.types.getD ty.toNat default).fields).length) : Value) from (if_pos X)) rfl (zM az) ⟨rfl, rfl⟩
 cases E : !(decide (0 ≤ ty) && decide (ty ≤ (((d.types.length : Nat) : Int) - 1)))
 have hg44r := E
 try simp only [zj] at E
 have t : ty.toNat < d.types.length := bo
 obtain ⟨u, e, Z⟩ := hdd0.typ t
 rw [← zm default t] at u e Z
 have hsm47 : ((d.types.getD ty.toNat default).fields).length * 48 ≤ 140737488355328 := e.small
 have hcw48 := g.cells u (hdd0.foot (ne_of_lt t))
 refine sty rfl rfl (zu (f := 51) (vals := [Iv f, Iv 0, Iv (((((d.types.getD ty.toNat default).fields).length : Nat) : Int) - 1)]) (cap := []) rfl rfl Tryd.call51 (ZZ (x := f) (lo := 0) (hi := ((((d.types.getD ty.toNat default).fields).length : Nat) : Int) - 1) hf dc om g) ?_)
 rintro _ w49 ⟨rfl, o⟩
 refine sty rfl rfl (yt (a := (decide (0 ≤ f) && decide (f ≤ (((((d.types.getD ty.toNat default).fields).length : Nat) : Int) - 1)))) rfl (st (yg (v := .bool (!(decide (0 ≤ f) && decide (f ≤ (((((d.types.getD ty.toNat default).fields).length : Nat) : Int) - 1))))) rfl rfl (zf ?_))))
 cases aa : !(decide (0 ≤ f) && decide (f ≤ (((((d.types.getD ty.toNat default).fields).length : Nat) : Int) - 1)))
 try simp only [zj] at aa
 refine zn rfl (zv (zd (za kr (fun _ => (st (yo rfl (st (zg (v := dd0) Tryd.isAgg22 rfl (zh (o.blk (i := 1) rfl) rfl) (st (zb (v := Iv ty) rfl ?_))))))))))
 have hi52 : ty.toNat < d.types.length := bo
 refine st (zz (k := 1) (i := ty) Tryd.underlying22 Tryd.sizeOf33 rfl hdd0.sl rfl ⟨by omega, by omega⟩ (st (yA rfl ?_)))
 have ah := o.cells u (hdd0.foot (ne_of_lt t))
 refine st (zg (v := (zi W (sb dd0) (so dd0 + ty.toNat * 1 + 0))) Tryd.isAgg31 rfl (ah.get (j := 0) rfl) (st (zb (v := Iv f) rfl ?_)))
 have hi55 : f.toNat < ((d.types.getD ty.toNat default).fields).length := bo
 refine st (zz (k := 4) (i := f) Tryd.underlying31 Tryd.sizeOf79 rfl e.sl rfl ⟨by omega, by omega⟩ ?_)
 have F : f.toNat < ((d.types.getD ty.toNat default).fields).length := bo
 obtain ⟨N, h, p⟩ := e.fld F
 rw [← zm default F] at N h p
 have hsm58 : ((((d.types.getD ty.toNat default).fields).getD f.toNat default).moves).length * 32 ≤ 140737488355328 := h.small
 have ai := o.cells N (e.foot (ne_of_lt F))
 refine st (zl (k := 4) Tryd.isAgg79 Tryd.sizeOf79 rfl rfl ai (st (zB Tryd.zeroValue79 ?_)))
 intro w62 b61 aA
 have ab := o.new aA
 refine stn (zy (v := .agg ((((d.types.getD ty.toNat default).fields).getD f.toNat default).cells (zi W (sb (zi W (sb dd0) (so dd0 + ty.toNat * 1 + 0))) (so (zi W (sb dd0) (so dd0 + ty.toNat * 1 + 0)) + f.toNat * 4 + 3))).toArray) (c' := ((((d.types.getD ty.toNat default).fields).getD f.toNat default).cells (zi W (sb (zi W (sb dd0) (so dd0 + ty.toNat * 1 + 0))) (so (zi W (sb dd0) (so dd0 + ty.toNat * 1 + 0)) + f.toNat * 4 + 3))).toArray) Tryd.sizeOf79 rfl rfl (ab.blk (i := 0) rfl) (ya ⟨rfl, rfl, rfl, h.sl.one, trivial⟩) (Nat.le_of_ble_eq_true rfl) rfl ?_)
 intro w64 aB
 have ac := ab.pt0 aB
 refine zf (zd (za kr (fun _ => (st (yz rfl (st (zg (v := (zi W (sb (zi W (sb dd0) (so dd0 + ty.toNat * 1 + 0))) (so (zi W (sb dd0) (so dd0 + ty.toNat * 1 + 0)) + f.toNat * 4 + 3))) Tryd.isAgg77 rfl (zh (ac.blk (i := 0) rfl) rfl) (st (zu (f := 67) (vals := [(zi W (sb (zi W (sb dd0) (so dd0 + ty.toNat * 1 + 0))) (so (zi W (sb dd0) (so dd0 + ty.toNat * 1 + 0)) + f.toNat * 4 + 3))]) (cap := []) rfl rfl Tryd.call67 (XG (l := (((d.types.getD ty.toNat default).fields).getD f.toNat default).moves) (vl := (zi W (sb (zi W (sb dd0) (so dd0 + ty.toNat * 1 + 0))) (so (zi W (sb dd0) (so dd0 + ty.toNat * 1 + 0)) + f.toNat * 4 + 3))) h ac) ?_)))))))))
 rintro y w68 ⟨_, rfl, H⟩
 have I := H.row (i := 0) rfl
 have hr70s : _ * 32 ≤ _ := I.2
 refine st (yz rfl (stn (yv (v := y) (c := [Iv ((((d.types.getD ty.toNat default).fields).getD f.toNat default).kind), Iv ((((d.types.getD ty.toNat default).fields).getD f.toNat default).policy), .bool ((((d.types.getD ty.toNat default).fields).getD f.toNat default).floor), (zi W (sb (zi W (sb dd0) (so dd0 + ty.toNat * 1 + 0))) (so (zi W (sb dd0) (so dd0 + ty.toNat * 1 + 0)) + f.toNat * 4 + 3))]) (c' := [Iv ((((d.types.getD ty.toNat default).fields).getD f.toNat default).kind), Iv ((((d.types.getD ty.toNat default).fields).getD f.toNat default).policy), .bool ((((d.types.getD ty.toNat default).fields).getD f.toNat default).floor), y]) Tryd.sizeOf77 rfl rfl (H.blk (i := 1) rfl) I.1.one rfl rfl ?_)))
 intro w71 aC
 have aD : Fld.Ok (((d.types.getD ty.toNat default).fields).getD f.toNat default) := ⟨(show InR ((((d.types.getD ty.toNat default).fields).getD f.toNat default).kind) from p.kind), (show InR ((((d.types.getD ty.toNat default).fields).getD f.toNat default).policy) from p.policy)⟩
 have J := H.pt1 aC
 refine zf (zd (za kr (fun _ => (st (zl (k := 4) Tryd.isAgg79 Tryd.sizeOf79 rfl rfl (CellsAt.all (J.blk (i := 1) rfl)) (stn (zy (v := .agg ((((d.types.getD ty.toNat default).fields).getD f.toNat default).cells y).toArray) (c' := ((((d.types.getD ty.toNat default).fields).getD f.toNat default).cells y).toArray) Tryd.sizeOf79 rfl rfl (J.blk (i := 2) rfl) (ya ⟨rfl, rfl, rfl, I.1.one, trivial⟩) (Nat.le_of_ble_eq_true rfl) rfl ?_)))))))
 intro w75 aE
 have ad := J.pt2 aE
 refine st (ze (v := .bool true) rfl (zf (zt (Zt (b := O) Tryd.results40 Tryd.isAgg79 Tryd.sizeOf79 rfl rfl (CellsAt.all (ad.blk (i := 2) rfl)) (show _ = (.bool true : Value) from rfl) ?_))))
 have aF := ad.s4_a
 have z : yr d ty f = true := by unfold yr; simp only [Bool.and_eq_true, decide_eq_true_eq]; omega
 have hz : zI d ty f = (((d.types.getD ty.toNat default).fields).getD f.toNat default) := by unfold zI; rw [z]; rfl
 rw [hz, z]
 refine ⟨y, rfl, ?_, aF⟩
 exact aD
 try simp only [zj] at aa
 refine zo rfl (zd (za kr (fun _ => ?_)))
 have aG : Fld.Ok (⟨0, 0, false, []⟩ : Fld) := ⟨(show InR (0) from dc), (show InR (0) from dc)⟩
 refine st (zQ (parts' := []) (v := .agg ((⟨0, 0, false, []⟩ : Fld).cells (Iz)).toArray) rfl (by simp [Instr.build, Instr.fill, Ev.cells, go_sem, Mv.cells, Fld.cells, Typ.cells, Prj.cells, Dcl.cells, Cel.cells, AskR.cells, Ask.cells]) (stn (zy (v := .agg ((⟨0, 0, false, []⟩ : Fld).cells (Iz)).toArray) (c' := ((⟨0, 0, false, []⟩ : Fld).cells (Iz)).toArray) Tryd.sizeOf79 rfl rfl (o.blk (i := 0) rfl) (ya ⟨rfl, rfl, rfl, rfl, trivial⟩) (Nat.le_of_ble_eq_true rfl) rfl ?_)))
 intro aS aH
 have ae := o.pt0 aH
 refine st (ze (v := .bool false) rfl (zf (zt (Zt (b := O) Tryd.results40 Tryd.isAgg79 Tryd.sizeOf79 rfl rfl (CellsAt.all (ae.blk (i := 0) rfl)) (show _ = (.bool false : Value) from rfl) ?_))))
 have aI : Sep G W ((RowE (α := Mv) own 115 (Iz) ([] : List Mv)) :: (Blk O ((⟨0, 0, false, []⟩ : Fld).cells (Iz)).toArray 79) :: (Blk b2 (d.cells dd0 dd1).toArray 25) :: Rs) aS := ae.rowNil own 115
 have aJ := aI.s3_a
 have z : yr d ty f = false := by unfold yr; rw [Bool.eq_false_iff]; intro h9; simp only [Bool.and_eq_true, decide_eq_true_eq] at h9; omega
 have hz : zI d ty f = (⟨0, 0, false, []⟩ : Fld) := by unfold zI; rw [z]; rfl
 rw [hz, z]
 refine ⟨(Iz), rfl, ?_, aJ⟩
 exact aG
 try simp only [zj] at E
 refine stx rfl rfl (stx rfl rfl (st (zX (v := .bool true) rfl rfl (zf (zo rfl (zd (za kr (fun _ => ?_))))))))
 have aL : Fld.Ok (⟨0, 0, false, []⟩ : Fld) := ⟨(show InR (0) from dc), (show InR (0) from dc)⟩
 refine st (zQ (parts' := []) (v := .agg ((⟨0, 0, false, []⟩ : Fld).cells (Iz)).toArray) rfl (by simp [Instr.build, Instr.fill, Ev.cells, go_sem, Mv.cells, Fld.cells, Typ.cells, Prj.cells, Dcl.cells, Cel.cells, AskR.cells, Ask.cells]) (stn (zy (v := .agg ((⟨0, 0, false, []⟩ : Fld).cells (Iz)).toArray) (c' := ((⟨0, 0, false, []⟩ : Fld).cells (Iz)).toArray) Tryd.sizeOf79 rfl rfl (g.blk (i := 0) rfl) (ya ⟨rfl, rfl, rfl, rfl, trivial⟩) (Nat.le_of_ble_eq_true rfl) rfl ?_)))
 intro aT aM
 have af := g.pt0 aM
 refine st (ze (v := .bool false) rfl (zf (zt (Zt (b := O) Tryd.results40 Tryd.isAgg79 Tryd.sizeOf79 rfl rfl (CellsAt.all (af.blk (i := 0) rfl)) (show _ = (.bool false : Value) from rfl) ?_))))
 have aN : Sep G W ((RowE (α := Mv) own 115 (Iz) ([] : List Mv)) :: (Blk O ((⟨0, 0, false, []⟩ : Fld).cells (Iz)).toArray 79) :: (Blk b2 (d.cells dd0 dd1).toArray 25) :: Rs) aT := af.rowNil own 115
 have aO := aN.s3_a
 have z : yr d ty f = false := by unfold yr; rw [Bool.eq_false_iff]; intro h9; simp only [Bool.and_eq_true, decide_eq_true_eq] at h9; omega
 have hz : zI d ty f = (⟨0, 0, false, []⟩ : Fld) := by unfold zI; rw [z]; rfl
 rw [hz, z]
 refine ⟨(Iz), rfl, ?_, aO⟩
 exact aL

theorem KS {G : Nat → Prop} {W w : World} {Rs : List HP} {d : Dcl} {dd0 : Value} (hdd0 : RdS W G dd0 d.types) {dd1 : Value} (hdd1 : RdS W G dd1 d.projs) (od : d.Ok) {ty : Int} (hty : InR ty) {f : Int} (hf : InR f) {op : Int} (hop : InR op) {arg : Int} (harg : InR arg) (hKN : RdS W G (.slice (some ⟨0, 0, none⟩) 6 6) kindsL) (hS0 : Sep G W Rs w) : Ret Tryd.prog 15 [.agg (d.cells dd0 dd1).toArray, .int .i64 (ty), .int .i64 (f), .int .i64 (op), .int .i64 (arg)] w (fun r w' => r = (.int .i64 (yJ d ty f op arg) : Value) ∧ Sep G W Rs w') := by
 have hdd0s : _ * 24 ≤ _ := hdd0.small
 have hdd1s : _ * 40 ≤ _ := hdd1.small
 have hKNs : _ * 8 ≤ _ := hKN.small
 refine zr (args := [.agg (d.cells dd0 dd1).toArray, Iv ty, Iv f, Iv op, Iv arg]) Tryd.func15 rfl rfl ?_
 refine zd (za kr (fun _ => (st (zT (v := .agg (d.cells dd0 dd1).toArray) rfl ?_))))
 intro w3 b2 aZ
 have aP := hS0.new aZ
 refine st (ze (v := Iv 0) rfl (zf (zd (za kr (fun _ => (st (zl (k := 2) Tryd.isAgg25 Tryd.sizeOf25 rfl rfl (CellsAt.all (aP.blk (i := 0) rfl)) (st (zb (v := Iv ty) rfl (st (zb (v := Iv f) rfl (st (zu (f := 40) (vals := [.agg (d.cells dd0 dd1).toArray, Iv ty, Iv f]) (cap := []) rfl rfl Tryd.call40 (QQ (d := d) (ty := ty) (f := f) hdd0 hdd1 od hty hf aP) ?_)))))))))))))
 rintro _ w7 ⟨q, rfl, hfok6, aQ⟩
 have af := aQ.row (i := 0) rfl
 have hr9s : _ * 32 ≤ _ := af.2
 refine st (zb (v := .tuple #[.agg ((zI d ty f).cells q).toArray, .bool ((yr d ty f))]) rfl (st (zE (vs := [.agg ((zI d ty f).cells q).toArray, .bool ((yr d ty f))]) (i := 0) (v := .agg ((zI d ty f).cells q).toArray) rfl rfl (st (zE (vs := [.agg ((zI d ty f).cells q).toArray, .bool ((yr d ty f))]) (i := 1) (v := .bool ((yr d ty f))) rfl rfl (st (zB Tryd.zeroValue79 ?_)))))))
 intro w12 I aS
 have ag := aQ.new aS
 refine stn (zy (v := .agg ((zI d ty f).cells q).toArray) (c' := ((zI d ty f).cells q).toArray) Tryd.sizeOf79 rfl rfl (ag.blk (i := 0) rfl) (ya ⟨rfl, rfl, rfl, af.1.one, trivial⟩) (Nat.le_of_ble_eq_true rfl) rfl ?_)
 intro w14 aT
 have ah := ag.pt0 aT
 refine st (ze (v := .bool ((yr d ty f))) rfl (zf (zd (zw (zd (za kr (fun _ => (st (zb (v := .bool ((yr d ty f))) rfl (st (yt (a := (yr d ty f)) rfl (st (ze (v := .bool (!(yr d ty f))) rfl (zf ?_))))))))))))))
 cases J : !(yr d ty f)
 have h := J
 try simp only [zj] at J
 refine zn rfl (zd ?_)
 refine WD4 ((fun TT aR => WF [fun vals wq => Sep G W (aR :: TT) wq, fun vals wq => (vals 1 = (.bool ((decide (1 ≤ op) && decide (op ≤ 5))) : Value)) ∧ Sep G W (aR :: TT) wq]) ((RowE (α := Mv) own 115 q ((zI d ty f).moves)) :: (Blk b2 (d.cells dd0 dd1).toArray 25) :: Rs) (Blk I ((zI d ty f).cells q).toArray 79)) (AF [Vl 0 (Iv op), fun _ => True, Vl 2 (.bool (!(decide (1 ≤ op) && decide (op ≤ 5)))), Vl 3 (.bool (!(decide (1 ≤ op) && decide (op ≤ 5)))), Vl 4 (if (!(decide (1 ≤ op) && decide (op ≤ 5))) = false then Iv op else undef), Vl 5 (if (!(decide (1 ≤ op) && decide (op ≤ 5))) = false then Ix (sb (Iy 0 6 6)) (so (Iy 0 6 6) + op.toNat * 1) else undef), Vl 6 (if (!(decide (1 ≤ op) && decide (op ≤ 5))) = false then Iv ((kindsL.getD op.toNat 0)) else undef), Vl 7 (if (!(decide (1 ≤ op) && decide (op ≤ 5))) = false then Ix I 0 else undef), Vl 8 (if (!(decide (1 ≤ op) && decide (op ≤ 5))) = false then Iv ((zI d ty f).kind) else undef), Vl 9 (if (!(decide (1 ≤ op) && decide (op ≤ 5))) = false then .bool (!decide ((kindsL.getD op.toNat 0) = ((zI d ty f).kind))) else undef), Vl 10 (.bool ((!(decide (1 ≤ op) && decide (op ≤ 5))) || (!decide ((kindsL.getD op.toNat 0) = ((zI d ty f).kind))))), Vl 11 (.bool ((!(decide (1 ≤ op) && decide (op ≤ 5))) || (!decide ((kindsL.getD op.toNat 0) = ((zI d ty f).kind)))))]) [[], [0], [0, 1], [0, 1, 2], (rg 4), (rg 5), (rg 6), (rg 4), [0, 1, 2, 3, 7], (rg 9), (rg 10), (rg 11)] [1] [(0, 0), (0, 0), (1, 1), (1, 1), (1, 1), (1, 1), (1, 1), (1, 1), (1, 1), (1, 1), (1, 1), (1, 1)] ah ⟨?_, ?_, ?_, ?_, ?_, ?_, ?_, ?_, ?_, ?_, ?_, ?_, trivial⟩ ?_
 exact fun _ _ _ _ _ _ _ => obl rfl (zb (v := Iv op) rfl dR)
 refine ob1 0 fun vals _ (aV : Sep _ _ _ _) aW => (obl rfl ((zu (f := 51) (vals := [Iv op, Iv 1, Iv 5]) (cap := []) rfl (yP ⟨(aW 0 dc), rfl, rfl, trivial⟩) Tryd.call51 (ZZ (x := op) (lo := 1) (hi := 5) om dc dc aV) ?_)))
 rintro _ w32 ⟨rfl, aX⟩
 exact fun c e hv' => ⟨(And.intro e aX), trivial⟩
 refine ob1 1 fun _ _ ak _ => ?_
 obtain ⟨A, hS142⟩ := ak
 exact obl rfl (yt (a := (decide (1 ≤ op) && decide (op ≤ 5))) A dR)
 exact fun _ _ _ _ _ _ al => obl rfl (zb (v := .bool (!(decide (1 ≤ op) && decide (op ≤ 5)))) (al 2 dc) dR)
 refine fun _ _ _ _ _ _ am => (zN rfl rfl (am 3 dc) (fun B => ?_) (fun B => fun c e _ => ⟨trivial, e.trans (if_neg B).symm⟩))
 have an := B
 try simp only [zj] at an
 exact zb (v := Iv op) rfl (fun c e _ => ⟨rfl, e.trans (if_pos B).symm⟩)
 refine ob1 1 fun _ _ ao N => ?_
 obtain ⟨A, hS165⟩ := ao
 refine zN rfl rfl (N 3 dc) (fun s => ?_) (fun s => fun c e _ => ⟨trivial, e.trans (if_neg s).symm⟩)
 have ap := s
 try simp only [zj] at ap
 exact Xs (b := sb (Iy 0 6 6)) (o := so (Iy 0 6 6)) (k := 1) (n := 6) (i := op) (off := op.toNat * 1) Tryd.underlying92 Tryd.sizeOf3 rfl (show _ = (Iv op : Value) from (Eq.trans (N 4 dc) (if_pos s))) om rfl (fun c e _ => ⟨rfl, e.trans (if_pos s).symm⟩)
 refine ob1 1 fun _ _ aq O => ?_
 obtain ⟨A, ar⟩ := aq
 refine zN rfl rfl (O 3 dc) (fun t => ?_) (fun t => fun c e _ => ⟨trivial, e.trans (if_neg t).symm⟩)
 have au := t
 try simp only [zj] at au
 have K : op.toNat < kindsL.length := (by first | omega | (rw [Vu]; omega))
 obtain ⟨M, ai⟩ := hKN.int K
 rw [← zm 0 K] at M ai
 have aj := ar.cells M (hKN.foot (ne_of_lt K))
 exact zg (v := Iv ((kindsL.getD op.toNat 0))) Tryd.isAgg3 (show _ = (Ix (sb (Iy 0 6 6)) (so (Iy 0 6 6) + op.toNat * 1) : Value) from (Eq.trans (O 5 dc) (if_pos t))) (aj.get (j := 0) rfl) (fun c e _ => ⟨rfl, e.trans (if_pos t).symm⟩)
 refine fun _ _ _ _ _ _ av => (zN rfl rfl (av 3 dc) (fun C => ?_) (fun C => fun c e _ => ⟨trivial, e.trans (if_neg C).symm⟩))
 have aw := C
 try simp only [zj] at aw
 exact xb rfl (fun c e _ => ⟨rfl, e.trans (if_pos C).symm⟩)
 refine ob1 1 fun _ _ ax P => ?_
 obtain ⟨A, ay⟩ := ax
 refine zN rfl rfl (P 3 dc) (fun u => ?_) (fun u => fun c e _ => ⟨trivial, e.trans (if_neg u).symm⟩)
 have az := u
 try simp only [zj] at az
 exact zg (v := Iv ((zI d ty f).kind)) Tryd.isAgg3 (show _ = (Ix I 0 : Value) from (Eq.trans (P 7 dc) (if_pos u))) (zh (ay.blk (i := 0) rfl) rfl) (fun c e _ => ⟨rfl, e.trans (if_pos u).symm⟩)
 refine ob1 1 fun _ _ aA L => ?_
 obtain ⟨A, hS210⟩ := aA
 refine zN rfl rfl (L 3 dc) (fun m => ?_) (fun m => fun c e _ => ⟨trivial, e.trans (if_neg m).symm⟩)
 have aB := m
 try simp only [zj] at aB
 exact yq (k := .i64) (a := (kindsL.getD op.toNat 0)) (b := (zI d ty f).kind) (show _ = (Iv ((kindsL.getD op.toNat 0)) : Value) from (Eq.trans (L 6 dc) (if_pos m))) (show _ = (Iv ((zI d ty f).kind) : Value) from (Eq.trans (L 8 dc) (if_pos m))) (fun c e _ => ⟨rfl, e.trans (if_pos m).symm⟩)
 exact fun _ _ _ _ _ _ Q => obl rfl (zG (b := !(decide (1 ≤ op) && decide (op ≤ 5))) (b' := !decide ((kindsL.getD op.toNat 0) = ((zI d ty f).kind))) (Q 3 dc) (fun hbp => (show _ = (.bool (!decide ((kindsL.getD op.toNat 0) = ((zI d ty f).kind))) : Value) from (Eq.trans (Q 9 dc) (if_pos hbp)))) dR)
 exact fun _ _ _ _ _ _ aC => obl rfl (ze (v := .bool ((!(decide (1 ≤ op) && decide (op ≤ 5))) || (!decide ((kindsL.getD op.toNat 0) = ((zI d ty f).kind))))) (aC 10 dc) dR)
 intro vals w231 aD aE
 obtain ⟨A, y⟩ := aD
 have aY := aE 11 dc
 refine yf (kv := [(0, .agg (d.cells dd0 dd1).toArray), (1, Iv ty), (2, Iv f), (3, Iv op), (4, Iv arg), (5, Ix b2 0), (10, Iv 0), (14, .agg (d.cells dd0 dd1).toArray), (15, Iv ty), (16, Iv f), (17, .tuple #[.agg ((zI d ty f).cells q).toArray, .bool ((yr d ty f))]), (13, .tuple #[.agg ((zI d ty f).cells q).toArray, .bool ((yr d ty f))]), (18, .agg ((zI d ty f).cells q).toArray), (19, .bool ((yr d ty f))), (11, Ix I 0), (12, .bool ((yr d ty f))), (21, .bool ((yr d ty f))), (22, .bool false), (20, .bool false), (23, .bool ((!(decide (1 ≤ op) && decide (op ≤ 5))) || (!decide ((kindsL.getD op.toNat 0) = ((zI d ty f).kind)))))]) ⟨rfl, rfl, rfl, rfl, rfl, rfl, rfl, rfl, rfl, rfl, rfl, rfl, rfl, rfl, rfl, rfl, rfl, rfl, rfl, (by exact aY), trivial⟩ (fun ρw231 => (zf ?_))
 cases D : (!(decide (1 ≤ op) && decide (op ≤ 5))) || (!decide ((kindsL.getD op.toNat 0) = ((zI d ty f).kind)))
 have g := D
 try simp only [zj] at D
 refine zn rfl (zd (zd (zF kr (st (zb (v := Iv op) rfl (st (zP (k := .i64) (a := op) (b := 1) rfl rfl (st (zb (v := .bool (decide (op = 1))) rfl (stc (V := Iv arg) rfl rfl (fun aF => ?_) ?_))))))))))
 have R := aF
 have R := tD R
 exact zb (v := Iv arg) rfl ⟨rfl, rfl⟩
 refine stc (V := .bool (decide (arg = 0))) rfl rfl (fun S => ?_) ?_
 have T := S
 have T := tD T
 exact zP (k := .i64) (a := arg) (b := 0) (show _ = (Iv arg : Value) from (if_pos S)) rfl ⟨rfl, rfl⟩
 refine st (zx (b := decide (op = 1)) (b' := decide (arg = 0)) rfl (fun hbp => (show _ = (.bool (decide (arg = 0)) : Value) from (if_pos hbp))) (st (ze (v := .bool ((decide (op = 1)) && (decide (arg = 0)))) rfl (zf ?_))))
 cases E : (decide (op = 1)) && (decide (arg = 0))
 have l := E
 try simp only [zj] at E
 refine zn rfl (zF kr (st (zb (v := Iv op) rfl (st (zP (k := .i64) (a := op) (b := 5) rfl rfl (st (zb (v := .bool (decide (op = 5))) rfl (stc (V := Iv arg) rfl rfl (fun aG => ?_) ?_))))))))
 have U := aG
 have U := tD U
 exact zb (v := Iv arg) rfl ⟨rfl, rfl⟩
 refine stc (V := Ix I 3) rfl rfl (fun aH => ?_) ?_
 have X := aH
 have X := tD X
 exact yz rfl ⟨rfl, rfl⟩
 refine stc (V := q) rfl rfl (fun Y => ?_) ?_
 have Z := Y
 have Z := tD Z
 exact zg (v := q) Tryd.isAgg77 (show _ = (Ix I 3 : Value) from (if_pos Y)) (zh (y.blk (i := 0) rfl) rfl) ⟨rfl, rfl⟩
 refine stc (V := Iw (((zI d ty f).moves).length)) rfl rfl (fun aa => ?_) ?_
 have ab := aa
 have ab := tD ab
 exact zJ (n := ((zI d ty f).moves).length) Tryd.underlying77 (show _ = (q : Value) from (if_pos aa)) af.1 ⟨rfl, rfl⟩
 refine stc (V := Iv (((((zI d ty f).moves).length : Nat) : Int) - 1)) rfl rfl (fun ac => ?_) ?_
 have ad := ac
 have ad := tD ad
 have aI : InR (((((zI d ty f).moves).length : Nat) : Int) - 1) := by omega
 exact Wd (r := ((((zI d ty f).moves).length : Nat) : Int) - 1) (k := .i64) (a := ((((zI d ty f).moves).length : Nat) : Int)) (b := 1) (show _ = (Iw (((zI d ty f).moves).length) : Value) from (if_pos ac)) rfl (zM aI) ⟨rfl, rfl⟩
 cases p : decide (op = 5)
 have z := p
 have p := fD p
 refine stx rfl rfl (stx rfl rfl (st (yg (v := .bool false) rfl rfl (st (ze (v := .bool false) rfl (zf (zn rfl (zv (zd (za kr (fun _ => (st (ze (v := Iv 0) rfl (zf (zt (zO Tryd.results15 (show _ = (Iv 0 : Value) from rfl) ?_))))))))))))))))
 have aJ := y.s3_
 refine ⟨?_, aJ⟩
 unfold yJ
 simp only [h, g, l, z, Bool.not_false, Bool.not_true, Bool.true_and, Bool.false_and, Bool.or_true, if_true, if_false, Bool.false_eq_true, ↓reduceIte]
 have z := p
 have p := tD p
 refine sty rfl rfl (zu (f := 51) (vals := [Iv arg, Iv 0, Iv (((((zI d ty f).moves).length : Nat) : Int) - 1)]) (cap := []) rfl rfl Tryd.call51 (ZZ (x := arg) (lo := 0) (hi := ((((zI d ty f).moves).length : Nat) : Int) - 1) harg dc om y) ?_)
 rintro _ w255 ⟨rfl, ae⟩
 refine sty rfl rfl (yt (a := (decide (0 ≤ arg) && decide (arg ≤ (((((zI d ty f).moves).length : Nat) : Int) - 1)))) rfl (st (zX (v := .bool (!(decide (0 ≤ arg) && decide (arg ≤ (((((zI d ty f).moves).length : Nat) : Int) - 1))))) rfl rfl (st (ze (v := .bool (!(decide (0 ≤ arg) && decide (arg ≤ (((((zI d ty f).moves).length : Nat) : Int) - 1))))) rfl (zf ?_))))))
 cases F : !(decide (0 ≤ arg) && decide (arg ≤ (((((zI d ty f).moves).length : Nat) : Int) - 1)))
 have H := F
 try simp only [zj] at F
 refine zn rfl (zv (zd (za kr (fun _ => (st (ze (v := Iv 0) rfl (zf (zt (zO Tryd.results15 (show _ = (Iv 0 : Value) from rfl) ?_)))))))))
 have aK := ae.s3_
 refine ⟨?_, aK⟩
 unfold yJ
 simp only [h, g, l, z, H, Bool.not_false, Bool.not_true, Bool.true_and, Bool.false_and, Bool.or_true, if_true, if_false, Bool.false_eq_true, ↓reduceIte]
 have H := F
 try simp only [zj] at F
 refine zo rfl (zd (za kr (fun _ => (st (ze (v := Iv 1) rfl (zf (zt (zO Tryd.results15 (show _ = (Iv 1 : Value) from rfl) ?_))))))))
 have aL := ae.s3_
 refine ⟨?_, aL⟩
 unfold yJ
 simp only [h, g, l, z, H, Bool.not_false, Bool.not_true, Bool.true_and, Bool.false_and, Bool.or_true, if_true, if_false, Bool.false_eq_true, ↓reduceIte]
 have l := E
 try simp only [zj] at E
 refine zo rfl (zv (zo rfl (zd (za kr (fun _ => (st (ze (v := Iv 1) rfl (zf (zt (zO Tryd.results15 (show _ = (Iv 1 : Value) from rfl) ?_))))))))))
 have aM := y.s3_
 refine ⟨?_, aM⟩
 unfold yJ
 simp only [h, g, l, Bool.not_false, Bool.not_true, Bool.true_and, Bool.false_and, Bool.or_true, if_true, if_false, Bool.false_eq_true, ↓reduceIte]
 have g := D
 try simp only [zj] at D
 refine zo rfl (zd (za kr (fun _ => (st (ze (v := Iv 2) rfl (zf (zt (zO Tryd.results15 (show _ = (Iv 2 : Value) from rfl) ?_))))))))
 have aN := y.s3_
 refine ⟨?_, aN⟩
 unfold yJ
 simp only [h, g, Bool.not_false, Bool.not_true, Bool.true_and, Bool.false_and, Bool.or_true, if_true, if_false, Bool.false_eq_true, ↓reduceIte]
 have h := J
 try simp only [zj] at J
 refine zo rfl (zd (za kr (fun _ => (st (ze (v := Iv 8) rfl (zf (zt (zO Tryd.results15 (show _ = (Iv 8 : Value) from rfl) ?_))))))))
 have aO := ah.s3_
 refine ⟨?_, aO⟩
 unfold yJ
 simp only [h, Bool.not_false, Bool.not_true, Bool.true_and, Bool.false_and, Bool.or_true, if_true, if_false, Bool.false_eq_true, ↓reduceIte]

end Go.Proofs.YtlblilbmpdejgaaDoor
/- The arguments opened. -/
set_option maxRecDepth 100000
namespace Go.Proofs.YtlblilbmpdejgaaDoor
open Go.ChangeShapes Go.WideShapes Go.ChangeAt Go.RowKit

theorem opI : xc Tryd.prog 3 Int := Um Tryd.underlying3
theorem opB : xc Tryd.prog 4 Bool := Vf Tryd.underlying4
theorem opId : xc Tryd.prog 57 (Int × Int) := VE Tryd.underlying57 (by kernel_rfl) rfl rfl rfl rfl (by kernel_rfl) (by kernel_rfl) opI opI
theorem Ky {α : Type} {l : List α} (h : l.length = 4) : ∃ a0 a1 a2 a3, l = [a0, a1, a2, a3] := by
  match l, h with
  | [a0, a1, a2, a3], _ => exact ⟨a0, a1, a2, a3, rfl⟩
theorem op_Mv : xc Tryd.prog 115 Mv := by
  intro H enc w fuel cs x h hx
  obtain ⟨_, _, _, _, hl, _⟩ := DataW.trod_struct Tryd.underlying115 h
  obtain ⟨c0, c1, c2, c3, rfl⟩ := Ky (hl.trans (by kernel_rfl))
  obtain ⟨m0, e0, r0⟩ := ye (α := Int) (i := 0) Tryd.underlying115 h hx rfl (by kernel_rfl) opI
  obtain rfl : c0 = .int .i64 m0 := List.cons.inj e0 |>.1
  obtain ⟨m1, e1, r1⟩ := ye (α := Int) (i := 1) Tryd.underlying115 h hx rfl (by kernel_rfl) opI
  obtain rfl : c1 = .int .i64 m1 := List.cons.inj e1 |>.1
  obtain ⟨m2, e2, r2⟩ := ye (α := Int) (i := 2) Tryd.underlying115 h hx rfl (by kernel_rfl) opI
  obtain rfl : c2 = .int .i64 m2 := List.cons.inj e2 |>.1
  obtain ⟨m3, e3, r3⟩ := ye (α := Int) (i := 3) Tryd.underlying115 h hx rfl (by kernel_rfl) opI
  obtain rfl : c3 = .int .i64 m3 := List.cons.inj e3 |>.1
  exact ⟨⟨m0, m1, m2, m3⟩, rfl, ⟨r0, r1, r2, r3⟩⟩
theorem Ja : xc Tryd.prog 77 (List Mv) := xy Tryd.underlying77 op_Mv (by kernel_rfl) (by kernel_rfl)
theorem KG : xc Tryd.prog 79 Fld := by
  intro H enc w fuel cs x h hx
  obtain ⟨_, _, _, _, hl, _⟩ := DataW.trod_struct Tryd.underlying79 h
  obtain ⟨c0, c1, c2, c3, rfl⟩ := Ky (hl.trans (by kernel_rfl))
  obtain ⟨m0, e0, r0⟩ := ye (α := Int) (i := 0) Tryd.underlying79 h hx rfl (by kernel_rfl) opI
  obtain rfl : c0 = .int .i64 m0 := List.cons.inj e0 |>.1
  obtain ⟨m1, e1, r1⟩ := ye (α := Int) (i := 1) Tryd.underlying79 h hx rfl (by kernel_rfl) opI
  obtain rfl : c1 = .int .i64 m1 := List.cons.inj e1 |>.1
  obtain ⟨m2, e2⟩ := ye (α := Bool) (i := 2) Tryd.underlying79 h hx rfl (by kernel_rfl) opB
  obtain rfl : c2 = .bool m2 := List.cons.inj e2 |>.1
  obtain ⟨l3, v3, e3, r3⟩ := ye (α := List Mv) (i := 3) Tryd.underlying79 h hx rfl (by kernel_rfl) Ja
  obtain rfl : c3 = v3 := List.cons.inj e3 |>.1
  exact ⟨⟨m0, m1, m2, l3⟩, c3, rfl, r3, ⟨r0, r1⟩⟩
theorem QX : xc Tryd.prog 31 (List Fld) := xy Tryd.underlying31 KG (by kernel_rfl) (by kernel_rfl)
theorem lst_1 {α : Type} {l : List α} (h : l.length = 1) : ∃ a0, l = [a0] := by
  match l, h with
  | [a0], _ => exact ⟨a0, rfl⟩
theorem Je : xc Tryd.prog 33 Typ := by
  intro H enc w fuel cs x h hx
  obtain ⟨_, _, _, _, hl, _⟩ := DataW.trod_struct Tryd.underlying33 h
  obtain ⟨c0, rfl⟩ := lst_1 (hl.trans (by kernel_rfl))
  obtain ⟨l0, v0, e0, r0⟩ := ye (α := List Fld) (i := 0) Tryd.underlying33 h hx rfl (by kernel_rfl) QX
  obtain rfl : c0 = v0 := List.cons.inj e0 |>.1
  exact ⟨⟨l0⟩, c0, rfl, r0, ⟨⟩⟩
theorem lst_5 {α : Type} {l : List α} (h : l.length = 5) : ∃ a0 a1 a2 a3 a4, l = [a0, a1, a2, a3, a4] := by
  match l, h with
  | [a0, a1, a2, a3, a4], _ => exact ⟨a0, a1, a2, a3, a4, rfl⟩
theorem KM : xc Tryd.prog 107 Prj := by
  intro H enc w fuel cs x h hx
  obtain ⟨_, _, _, _, hl, _⟩ := DataW.trod_struct Tryd.underlying107 h
  obtain ⟨c0, c1, c2, c3, c4, rfl⟩ := lst_5 (hl.trans (by kernel_rfl))
  obtain ⟨m0, e0, r0⟩ := ye (α := Int) (i := 0) Tryd.underlying107 h hx rfl (by kernel_rfl) opI
  obtain rfl : c0 = .int .i64 m0 := List.cons.inj e0 |>.1
  obtain ⟨m1, e1, r1⟩ := ye (α := Int) (i := 1) Tryd.underlying107 h hx rfl (by kernel_rfl) opI
  obtain rfl : c1 = .int .i64 m1 := List.cons.inj e1 |>.1
  obtain ⟨m2, e2, r2⟩ := ye (α := Int) (i := 2) Tryd.underlying107 h hx rfl (by kernel_rfl) opI
  obtain rfl : c2 = .int .i64 m2 := List.cons.inj e2 |>.1
  obtain ⟨m3, e3, r3⟩ := ye (α := Int) (i := 3) Tryd.underlying107 h hx rfl (by kernel_rfl) opI
  obtain rfl : c3 = .int .i64 m3 := List.cons.inj e3 |>.1
  obtain ⟨m4, e4, r4⟩ := ye (α := Int) (i := 4) Tryd.underlying107 h hx rfl (by kernel_rfl) opI
  obtain rfl : c4 = .int .i64 m4 := List.cons.inj e4 |>.1
  exact ⟨⟨m0, m1, m2, m3, m4⟩, rfl, ⟨r0, r1, r2, r3, r4⟩⟩
theorem QL : xc Tryd.prog 22 (List Typ) := xy Tryd.underlying22 Je (by kernel_rfl) (by kernel_rfl)
theorem Kg : xc Tryd.prog 23 (List Prj) := xy Tryd.underlying23 KM (by kernel_rfl) (by kernel_rfl)
theorem lst_2 {α : Type} {l : List α} (h : l.length = 2) : ∃ a0 a1, l = [a0, a1] := by
  match l, h with
  | [a0, a1], _ => exact ⟨a0, a1, rfl⟩
theorem Jo : xc Tryd.prog 25 Dcl := by
  intro H enc w fuel cs x h hx
  obtain ⟨_, _, _, _, hl, _⟩ := DataW.trod_struct Tryd.underlying25 h
  obtain ⟨c0, c1, rfl⟩ := lst_2 (hl.trans (by kernel_rfl))
  obtain ⟨l0, v0, e0, r0⟩ := ye (α := List Typ) (i := 0) Tryd.underlying25 h hx rfl (by kernel_rfl) QL
  obtain rfl : c0 = v0 := List.cons.inj e0 |>.1
  obtain ⟨l1, v1, e1, r1⟩ := ye (α := List Prj) (i := 1) Tryd.underlying25 h hx rfl (by kernel_rfl) Kg
  obtain rfl : c1 = v1 := List.cons.inj e1 |>.1
  exact ⟨⟨l0, l1⟩, c0, c1, rfl, r0, r1, ⟨⟩⟩
theorem QZ : xc Tryd.prog 40 (List Int) := xy Tryd.underlying40 opI (by kernel_rfl) (by kernel_rfl)
theorem KU {α : Type} {l : List α} (h : l.length = 10) : ∃ a0 a1 a2 a3 a4 a5 a6 a7 a8 a9, l = [a0, a1, a2, a3, a4, a5, a6, a7, a8, a9] := by
  match l, h with
  | [a0, a1, a2, a3, a4, a5, a6, a7, a8, a9], _ => exact ⟨a0, a1, a2, a3, a4, a5, a6, a7, a8, a9, rfl⟩
theorem op_Ev : xc Tryd.prog 59 Ev := by
  intro H enc w fuel cs x h hx
  obtain ⟨_, _, _, _, hl, _⟩ := DataW.trod_struct Tryd.underlying59 h
  obtain ⟨c0, c1, c2, c3, c4, c5, c6, c7, c8, c9, rfl⟩ := KU (hl.trans (by kernel_rfl))
  obtain ⟨⟨m0, m1⟩, e0, r0, r1⟩ := ye (α := Int × Int) (i := 0) Tryd.underlying59 h hx rfl (by kernel_rfl) opId
  obtain rfl : c0 = .int .i64 m0 := List.cons.inj e0 |>.1
  obtain rfl : c1 = .int .i64 m1 := List.cons.inj (List.cons.inj e0 |>.2) |>.1
  obtain ⟨m2, e2, r2⟩ := ye (α := Int) (i := 1) Tryd.underlying59 h hx rfl (by kernel_rfl) opI
  obtain rfl : c2 = .int .i64 m2 := List.cons.inj e2 |>.1
  obtain ⟨l3, v3, e3, r3⟩ := ye (α := List Int) (i := 2) Tryd.underlying59 h hx rfl (by kernel_rfl) QZ
  obtain rfl : c3 = v3 := List.cons.inj e3 |>.1
  obtain ⟨m4, e4, r4⟩ := ye (α := Int) (i := 3) Tryd.underlying59 h hx rfl (by kernel_rfl) opI
  obtain rfl : c4 = .int .i64 m4 := List.cons.inj e4 |>.1
  obtain ⟨m5, e5, r5⟩ := ye (α := Int) (i := 4) Tryd.underlying59 h hx rfl (by kernel_rfl) opI
  obtain rfl : c5 = .int .i64 m5 := List.cons.inj e5 |>.1
  obtain ⟨m6, e6, r6⟩ := ye (α := Int) (i := 5) Tryd.underlying59 h hx rfl (by kernel_rfl) opI
  obtain rfl : c6 = .int .i64 m6 := List.cons.inj e6 |>.1
  obtain ⟨m7, e7, r7⟩ := ye (α := Int) (i := 6) Tryd.underlying59 h hx rfl (by kernel_rfl) opI
  obtain rfl : c7 = .int .i64 m7 := List.cons.inj e7 |>.1
  obtain ⟨m8, e8, r8⟩ := ye (α := Int) (i := 7) Tryd.underlying59 h hx rfl (by kernel_rfl) opI
  obtain rfl : c8 = .int .i64 m8 := List.cons.inj e8 |>.1
  obtain ⟨m9, e9, r9⟩ := ye (α := Int) (i := 8) Tryd.underlying59 h hx rfl (by kernel_rfl) opI
  obtain rfl : c9 = .int .i64 m9 := List.cons.inj e9 |>.1
  exact ⟨⟨m0, m1, m2, l3, m4, m5, m6, m7, m8, m9⟩, c3, rfl, r3, ⟨r0, r1, r2, r4, r5, r6, r7, r8, r9⟩⟩
theorem XW {H : Type} {enc : TypeId × Value → H} {W : World} {base : Nat} {v : Value} {d : DataW H} {ps : List MemPlace} (hval : Value.okWide Tryd.prog W .any base 25 v) (h : DataW.Trod enc Tryd.prog W 0 (fun _ => true) true 25 v d ps) (hx : Zs Tryd.prog 25 d) : ∃ (p : Dcl) (d1 : Value) (d2 : Value), v = .agg (p.cells d1 d2).toArray ∧ RdS W (xp W) d1 p.types ∧ RdS W (xp W) d2 p.projs ∧ p.Ok := by
  obtain ⟨cs, rfl, _⟩ := okWide_struct Tryd.underlying25 hval
  obtain ⟨fuel, hf⟩ := h
  obtain ⟨e, d1, d2, he, hd1, hd2, ho⟩ := Jo H enc W fuel _ _ hf hx
  refine ⟨e, d1, d2, ?_, hd1, hd2, ho⟩
  have : cs.toList = e.cells d1 d2 := he
  rw [← this]
theorem Qq {H : Type} {enc : TypeId × Value → H} {W : World} {base : Nat} {v : Value} {d : DataW H} {ps : List MemPlace} (hval : Value.okWide Tryd.prog W .any base 3 v) (h : DataW.Trod enc Tryd.prog W 0 (fun _ => true) true 3 v d ps) (hx : Zs Tryd.prog 3 d) : ∃ n : Int, v = .int .i64 n ∧ InR n := by
  obtain ⟨n, rfl⟩ := okWide_int Tryd.underlying3 hval
  obtain ⟨fuel, hf⟩ := h
  obtain ⟨m, he, hr⟩ := opI H enc W fuel _ _ hf hx
  obtain rfl : n = m := by
    have := List.cons.inj he |>.1
    cases this; rfl
  exact ⟨n, rfl, hr⟩
theorem KW : xc Tryd.prog 47 (List Ev) := xy Tryd.underlying47 op_Ev (by kernel_rfl) (by kernel_rfl)
theorem Vw {H : Type} {enc : TypeId × Value → H} {W : World} {base : Nat} {v : Value} {d : DataW H} {ps : List MemPlace} (hval : Value.okWide Tryd.prog W .any base 47 v) (h : DataW.Trod enc Tryd.prog W 0 (fun _ => true) true 47 v d ps) (hx : Zs Tryd.prog 47 d) : ∃ l : List Ev, RdS W (xp W) v l := by
  obtain ⟨a, len, cap, rfl⟩ := okWide_slice Tryd.underlying47 hval
  obtain ⟨fuel, hf⟩ := h
  obtain ⟨l, v, he, hr⟩ := KW H enc W fuel _ _ hf hx
  obtain rfl := List.cons.inj he |>.1
  exact ⟨l, hr⟩
theorem Tryd.own : ownKnob Tryd.prog.godebug = none := by kernel_rfl
theorem Tryd.laidOut : laidOutB Tryd.prog = true := by kernel_rfl
theorem Qx : Tryd.prog.globalNamed "quayside/schema.kinds" = some 0 := by kernel_rfl
theorem KP : (Tryd.prog.globals[0]?).map (·.type) = some 92 := by kernel_rfl
theorem Uw {W : World} (h : laidMetH Tryd.prog [("quayside/schema.kinds", Rows.laid_quayside_schema_kinds)] W) : RdS W (xp W) (.slice (some ⟨0, 0, none⟩) 6 6) kindsL := by
  rw [MakeChecks.laidMetH_plain _ _ _ (by kernel_rfl)] at h
  exact QT Qx (Lib.tabIs_of_head (k := .i64) (zs := kindsL) Qx KP Tryd.underlying92 Tryd.underlying3 (by kernel_rfl) (by kernel_rfl) h) (by decide) (by decide)
theorem Qb (os : Os) (args : Array Value) : laidMetH Tryd.prog [("quayside/schema.kinds", Rows.laid_quayside_schema_kinds)] ((World.doorLaid Tryd.prog 14 os).forCall (fun _ _ => 0) ⟨#[], args, []⟩).memory :=
  laidMetH_of_parts3 (fuel := 8) (laidMet_of_run' 8 (by kernel_rfl) (by kernel_rfl)) (by kernel_rfl) (by kernel_rfl)
end Go.Proofs.YtlblilbmpdejgaaDoor
/- Steps of the proofs of this seat: part K2. -/
set_option maxRecDepth 8000
set_option maxHeartbeats 4000000
namespace Go.Proofs.YtlblilbmpdejgaaDoor
open Go.Proofs Go.RowKit

end Go.Proofs.YtlblilbmpdejgaaDoor
/- Steps of the proofs of this seat: part K3. -/
set_option maxRecDepth 8000
set_option maxHeartbeats 4000000
namespace Go.Proofs.YtlblilbmpdejgaaDoor
open Go.Proofs Go.RowKit

theorem QU {t : Typ} {c : List Cel} {f op arg : Int} (h : yU t c f op arg = 0) : yV (yK t f) c (yj c f) op arg = true := by
  unfold yU at h
  split at h
  · assumption
  · cases h
end Go.Proofs.YtlblilbmpdejgaaDoor
/- Maps with structs as keys: what they hold, value by value. -/
namespace Go.Proofs.YtlblilbmpdejgaaDoor
open Go.RowKit Go.MapKept

structure KLaw (P : Program) (kt : TypeId) {κ : Type} [DecidableEq κ] (enc : κ → Value) : Prop where
  inj : ∀ {a b : κ}, enc a = enc b → a = b
  desc : ∃ d, P.underlying kt = some d ∧ ∀ a b, Instr.sameNow d (enc a) (enc b) = none
  check : ∀ (w : World) (e : Bool) (k : κ), (Instr.checkKey e 10000 kt (enc k)).run P w = .ok () w
  eql : ∀ (w : World) (a b : κ), (Op.equal kt (enc a) (enc b)).run P w = .ok (decide (a = b)) w
  stays : ∀ k, Instr.sameBits 10000 (enc k) (enc k) = true

def yC {κ β : Type} [DecidableEq κ] (L : List (κ × β)) (k : κ) : Option β := (L.find? fun p => decide (p.1 = k)).map (·.2)
def XZ {κ β : Type} [DecidableEq κ] (L : List (κ × β)) (k : κ) (x : β) : List (κ × β) := match L.findIdx? fun p => decide (p.1 = k) with
  | some j => L.set j (k, x)
  | none => L ++ [(k, x)]
def Wx {κ β : Type} [DecidableEq κ] (L : List (κ × β)) (k : κ) (z : β) : List (κ × β) := match L.findIdx? fun p => decide (p.1 = k) with
  | some _ => L
  | none => L ++ [(k, z)]

section
variable {P : Program} {kt : TypeId} {κ : Type} [DecidableEq κ] {enc : κ → Value}
theorem KLaw.ask (K : KLaw P kt enc) (k : κ) (w : World) : ∀ (es : List MapEntry) (i : Nat), (∀ e ∈ es, ∃ q, e.key = enc q) →
    ((Instr.findAsking kt (enc k) es i).run P w = .ok none w ∧ ∀ e ∈ es, e.key ≠ enc k) ∨ ∃ j e, (Instr.findAsking kt (enc k) es i).run P w = .ok (some (i + j, e.val)) w ∧ es[j]? = some e ∧ e.key = enc k
  | [], i, _ => .inl ⟨rfl, by simp⟩
  | e :: es, i, h => by
    obtain ⟨q, hq⟩ := h e (.head _)
    by_cases hk : k = q
    · subst hk
      refine .inr ⟨0, e, ?_, rfl, hq⟩
      simp [Instr.findAsking, hq, K.eql, go_sem]
    · rcases KLaw.ask K k w es (i + 1) (fun x hx => h x (.tail _ hx)) with ⟨h1, h2⟩ | ⟨j, e', h1, h2, h3⟩
      · refine .inl ⟨?_, fun x hx => ?_⟩
        · simp [Instr.findAsking, hq, K.eql, hk, h1, go_sem]
        · rcases List.mem_cons.1 hx with rfl | hx
          · rw [hq]; exact fun e => hk (K.inj e).symm
          · exact h2 x hx
      · refine .inr ⟨j + 1, e', ?_, by simpa using h2, h3⟩
        have e9 : i + 1 + j = i + (j + 1) := by omega
        rw [e9] at h1
        simp [Instr.findAsking, hq, K.eql, hk, h1, go_sem]
theorem KLaw.find (K : KLaw P kt enc) (k : κ) (w : World) (es : List MapEntry) (h : ∀ e ∈ es, ∃ q, e.key = enc q) :
    ((Instr.findKey kt (enc k) es).run P w = .ok none w ∧ ∀ e ∈ es, e.key ≠ enc k) ∨ ∃ j e, (Instr.findKey kt (enc k) es).run P w = .ok (some (j, e.val)) w ∧ es[j]? = some e ∧ e.key = enc k := by
  obtain ⟨d, hd, hs⟩ := K.desc
  match es, h with
  | [], h => exact .inl ⟨by simp [Instr.findKey, run_underlying hd, Instr.findNow, go_sem], by simp⟩
  | e :: es, h =>
    obtain ⟨q, hq⟩ := h e (.head _)
    have hn : Instr.findNow d (enc k) (e :: es) 0 = none := by simp [Instr.findNow, hq, hs]
    have hr : ∀ r, (Instr.findAsking kt (enc k) (e :: es) 0).run P w = .ok r w → (Instr.findKey kt (enc k) (e :: es)).run P w = .ok r w := by
      intro r hr
      simp [Instr.findKey, run_underlying hd, hn, go_sem]
      exact hr
    rcases K.ask k w (e :: es) 0 h with ⟨h1, h2⟩ | ⟨j, e', h1, h2, h3⟩
    · exact .inl ⟨hr _ h1, h2⟩
    · exact .inr ⟨j, e', hr _ (by rw [h1, Nat.zero_add]), h2, h3⟩
theorem KLaw.keeps (K : KLaw P kt enc) (k : κ) (w : World) : (Instr.keyThatStays (enc k) (enc k)).run P w = .ok (enc k) w := by
  simp [Instr.keyThatStays, K.stays]

def EntsV (enc : κ → Value) (es : List MapEntry) (L : List (κ × Value)) : Prop := es.map (fun e => (e.key, e.val)) = L.map (fun p => (enc p.1, p.2))
theorem EntsV.len {es : List MapEntry} {L : List (κ × Value)} (h : EntsV enc es L) : es.length = L.length := by have := congrArg List.length h; simpa using this
theorem EntsV.at_ {es : List MapEntry} {L : List (κ × Value)} (h : EntsV enc es L) {j : Nat} {e : MapEntry} (he : es[j]? = some e) : ∃ p, L[j]? = some p ∧ e.key = enc p.1 ∧ e.val = p.2 := by
  have h1 : (es.map (fun e => (e.key, e.val)))[j]? = (L.map (fun p => (enc p.1, p.2)))[j]? := by rw [show es.map _ = L.map _ from h]
  rw [List.getElem?_map, List.getElem?_map, he] at h1
  cases hp : L[j]? with
  | none => rw [hp] at h1; cases h1
  | some p => rw [hp] at h1; simp only [Option.map_some, Option.some.injEq, Prod.mk.injEq] at h1; exact ⟨p, rfl, h1.1, h1.2⟩
theorem EntsV.keys {es : List MapEntry} {L : List (κ × Value)} (h : EntsV enc es L) : ∀ e ∈ es, ∃ q, e.key = enc q := by
  intro e he
  obtain ⟨j, hj, rfl⟩ := List.getElem_of_mem he
  obtain ⟨p, _, h1, _⟩ := h.at_ (List.getElem?_eq_getElem hj)
  exact ⟨p.1, h1⟩
theorem EntsV.nodup {es : List MapEntry} {L : List (κ × Value)} (h : EntsV enc es L) (hp : (es.map (·.key)).Nodup) : (L.map (·.1)).Nodup := by
  have h1 : (es.map (·.key)) = (L.map (·.1)).map enc := by
    have := congrArg (List.map Prod.fst) h
    simpa [Function.comp_def] using this
  have h2 : ((L.map (·.1)).map enc).Nodup := by rw [← h1]; exact hp
  exact (List.pairwise_map.1 h2).imp (fun hne e => hne (by rw [e]))
theorem EntsV.none {es : List MapEntry} {L : List (κ × Value)} (h : EntsV enc es L) {k : κ} (hk : ∀ e ∈ es, e.key ≠ enc k) : (L.findIdx? fun p => decide (p.1 = k)) = none ∧ yC L k = none := by
  have key : ∀ p ∈ L, ¬ p.1 = k := by
    intro p hp e
    obtain ⟨j, hj, rfl⟩ := List.getElem_of_mem hp
    have hje : j < es.length := by rw [h.len]; exact hj
    obtain ⟨q, h1, h2, _⟩ := h.at_ (List.getElem?_eq_getElem hje)
    rw [List.getElem?_eq_getElem hj] at h1
    cases h1
    exact hk _ (List.getElem_mem hje) (by rw [h2, e])
  refine ⟨by rw [List.findIdx?_eq_none_iff]; intro p hp; simpa using key p hp, ?_⟩
  unfold yC
  rw [Option.map_eq_none_iff, List.find?_eq_none]
  intro p hp
  simpa using key p hp
theorem EntsV.some {es : List MapEntry} {L : List (κ × Value)} (h : EntsV enc es L) (hi : ∀ {a b : κ}, enc a = enc b → a = b) (hp : (es.map (·.key)).Nodup) {k : κ} {j : Nat} {e : MapEntry} (he : es[j]? = some e) (hk : e.key = enc k) :
    j < L.length ∧ (L.findIdx? fun p => decide (p.1 = k)) = some j ∧ yC L k = some e.val := by
  obtain ⟨p, h1, h2, h3⟩ := h.at_ he
  have hjl := (List.getElem?_eq_some_iff.1 h1).1
  have hpe : L[j] = p := (List.getElem?_eq_some_iff.1 h1).2
  have hpk : p.1 = k := hi (by rw [← h2, hk])
  have hn := h.nodup hp
  have first : ∀ i (hij : i < j), ¬ (L[i]'(by omega)).1 = k := fun i hij => by
    have := List.pairwise_iff_getElem.1 (List.pairwise_map.1 hn) i j (by omega) hjl hij
    intro e; exact this (by rw [e, hpe, hpk])
  refine ⟨hjl, ?_, ?_⟩
  · rw [List.findIdx?_eq_some_iff_getElem]
    exact ⟨hjl, by simp [hpe, hpk], fun i hi => by simpa using first i hi⟩
  · unfold yC
    have : (L.find? fun p => decide (p.1 = k)) = Option.some p := by
      rw [List.find?_eq_some_iff_getElem]
      exact ⟨by simp [hpk], j, hjl, hpe, fun i hi => by simpa using first i hi⟩
    rw [this, Option.map_some, h3]

def IsMap (enc : κ → Value) (w : World) (m : Nat) (L : List (κ × Value)) : Prop := ∃ es clock, w.heap[m]? = some (.map es clock) ∧ Stamped es clock ∧ EntsV enc es.toList L ∧ clock = es.size
def IsMapE (enc : κ → Value) (w : World) (m : Nat) (L : List (κ × Value)) (j : Nat) (s : Int) : Prop := ∃ es clock, w.heap[m]? = some (.map es clock) ∧ Stamped es clock ∧ EntsV enc es.toList L ∧ clock = es.size ∧ ∃ e, es[j]? = some e ∧ (e.born : Int) = s
theorem IsMapE.is {w : World} {m j : Nat} {s : Int} {L : List (κ × Value)} (h : IsMapE enc w m L j s) : IsMap enc w m L := by obtain ⟨es, c, h1, h2, h3, h4, _⟩ := h; exact ⟨es, c, h1, h2, h3, h4⟩
theorem IsMap.lt {w : World} {m : Nat} {L : List (κ × Value)} (h : IsMap enc w m L) : m < w.heap.size := by obtain ⟨es, c, hb, _⟩ := h; exact xn hb
end

section
variable {P : Program} {d : Option Tmp} {ty : TypeId} {pos : String} {af : Array Edge} {gd : Option (Nat × Bool)} {σ : Env} {w : World} {K : Value → World → Prop} {κ : Type} [DecidableEq κ] {enc : κ → Value} {G : Nat → Prop} {W : World} {As : List HP} {m : Nat} {L : List (κ × Value)}

theorem Zy {m : Nat} {es es' : Array MapEntry} {c c' : Nat} (hb : w.heap[m]? = some (.map es c)) : Chg (fun i => i = m) w { w with heap := w.heap.setIfInBounds m (.map es' c') } := by
  refine ⟨rfl, rfl, rfl, by simp, fun i hi hne => (heap_set hb).2 i hne, ?_, Nat.le_refl _⟩
  rintro i ⟨c, T, hc⟩
  have hne : i ≠ m := fun e => by subst e; rw [hb] at hc; cases hc
  exact ⟨c, T, by rw [(heap_set hb).2 i hne]; exact hc⟩
theorem Xk {es : Array MapEntry} (h : EntsV enc es.toList L) (k : κ) (v : Value) (n : Nat) : EntsV enc (es.push { key := enc k, val := v, born := n }).toList (L ++ [(k, v)]) := by
  unfold EntsV at *
  rw [Array.toList_push, List.map_append, List.map_append, h]
  rfl
theorem Yo {es : Array MapEntry} (h : EntsV enc es.toList L) {k : κ} {v : Value} {j : Nat} {e : MapEntry} (he : es.toList[j]? = some e) (f : MapEntry → MapEntry) (hk : (f e).key = enc k) (hv : (f e).val = v) : EntsV enc (es.modify j f).toList (L.set j (k, v)) := by
  unfold EntsV at *
  rw [Array.toList_modify, List.modify_eq_set, he]
  simp only [Option.map_some, Option.getD_some, List.map_set, h, hk, hv]

theorem Vi {t kt et : TypeId} {x y : Operand} {k : κ} {z : Value} (hK : KLaw P kt enc) (hU : P.underlying t = some (.map kt et)) (hZ : ∀ w, (zeroValue et).run P w = .ok z w)
    (hx : ev σ x = .map (some m)) (hy : ev σ y = enc k) (hm : IsMap enc w m L) (h : K ((yC L k).getD z) w) : opV P ⟨d, .lookup t x y false, ty, pos, af, gd⟩ σ w K := by
  obtain ⟨es, clock, hb, hs, he, _⟩ := hm
  rcases hK.find k w es.toList he.keys with ⟨h1, h2⟩ | ⟨j, e, h1, h2, h3⟩
  · rw [(he.none h2).2] at h
    refine yi (v := z) (w' := w) ?_ h
    simp [execOp, hx, hy, Instr.lookup, run_underlying hU, MapKept.run_getObj_map hb, hK.check, h1, hZ, go_sem]
  · rw [(he.some hK.inj hs.2.2 h2 h3).2.2] at h
    refine yi (v := e.val) (w' := w) ?_ h
    simp [execOp, hx, hy, Instr.lookup, run_underlying hU, MapKept.run_getObj_map hb, hK.check, h1, go_sem]
theorem Wp {t kt et : TypeId} {x y : Operand} {k : κ} {z : Value} (hK : KLaw P kt enc) (hU : P.underlying t = some (.map kt et)) (hZ : ∀ w, (zeroValue et).run P w = .ok z w)
    (hx : ev σ x = .map (some m)) (hy : ev σ y = enc k) (hm : IsMap enc w m L) (h : K (.tuple #[(yC L k).getD z, .bool (yC L k).isSome]) w) : opV P ⟨d, .lookup t x y true, ty, pos, af, gd⟩ σ w K := by
  obtain ⟨es, clock, hb, hs, he, _⟩ := hm
  rcases hK.find k w es.toList he.keys with ⟨h1, h2⟩ | ⟨j, e, h1, h2, h3⟩
  · rw [(he.none h2).2] at h
    refine yi (v := .tuple #[z, .bool false]) (w' := w) ?_ h
    simp [execOp, hx, hy, Instr.lookup, run_underlying hU, MapKept.run_getObj_map hb, hK.check, h1, hZ, go_sem]
  · rw [(he.some hK.inj hs.2.2 h2 h3).2.2] at h
    refine yi (v := .tuple #[e.val, .bool true]) (w' := w) ?_ h
    simp [execOp, hx, hy, Instr.lookup, run_underlying hU, MapKept.run_getObj_map hb, hK.check, h1, go_sem]
theorem Xv {t kt et : TypeId} {x y z : Operand} {k : κ} {v : Value} (hK : KLaw P kt enc) (hU : P.underlying t = some (.map kt et)) (hx : ev σ x = .map (some m)) (hy : ev σ y = enc k) (hz : ev σ z = v) (hm : IsMap enc w m L)
    (h : ∀ w1, IsMap enc w1 m (XZ L k v) → Chg (fun i => i = m) w w1 → K undef w1) : opV P ⟨d, .mapUpdate t x y z, ty, pos, af, gd⟩ σ w K := by
  obtain ⟨es, clock, hb, hs, he, hcl⟩ := hm
  rcases hK.find k w es.toList he.keys with ⟨h1, h2⟩ | ⟨j, e, h1, h2, h3⟩
  · refine ZF (w' := { w with heap := w.heap.setIfInBounds m (.map (es.push { key := enc k, val := v, born := clock }) (clock + 1)) }) ?_ (h _ ?_ (Zy hb))
    · simp [execOp, hx, hy, hz, Instr.mapUpdate, run_underlying hU, MapKept.run_getObj_map hb, hK.check, h1, MapKept.run_setObj_map _ hb, go_sem]
    · unfold XZ
      rw [(he.none h2).1]
      exact ⟨_, _, (heap_set hb).1, stamped_push hs h2, Xk he k v clock, by simp [hcl]⟩
  · have hja : es[j]? = some e := by simpa using h2
    obtain ⟨hjl, hfi, _⟩ := he.some hK.inj hs.2.2 h2 h3
    refine ZF (w' := { w with heap := w.heap.setIfInBounds m (.map (es.modify j fun e => { e with key := enc k, val := v }) clock) }) ?_ (h _ ?_ (Zy hb))
    · simp [execOp, hx, hy, hz, Instr.mapUpdate, run_underlying hU, MapKept.run_getObj_map hb, hK.check, h1, hja, h3, hK.keeps, MapKept.run_setObj_map _ hb, go_sem]
    · unfold XZ
      rw [hfi]
      exact ⟨_, _, (heap_set hb).1, stamped_modify hs _ _ (fun _ _ => rfl) (fun e' _ he' => by rw [hja] at he'; cases he'; exact h3.symm), Yo he h2 _ rfl rfl, by simp [hcl]⟩
theorem Wm {t kt et : TypeId} {x y : Operand} {k : κ} {z : Value} (hK : KLaw P kt enc) (hU : P.underlying t = some (.map kt et)) (hZ : ∀ w, (zeroValue et).run P w = .ok z w) (hx : ev σ x = .map (some m)) (hy : ev σ y = enc k) (hm : IsMap enc w m L)
    (h : ∀ w1 j s, IsMapE enc w1 m (Wx L k z) j s → (∀ v, (Wx L k z).set j (k, v) = XZ L k v) → (∃ p, (Wx L k z)[j]? = some p ∧ p.1 = k) → Chg (fun i => i = m) w w1 → K (.tuple #[(yC L k).getD z, .int .i64 s]) w1) : opV P ⟨d, .mapEntry t x y, ty, pos, af, gd⟩ σ w K := by
  obtain ⟨es, clock, hb, hs, he, hcl⟩ := hm
  rcases hK.find k w es.toList he.keys with ⟨h1, h2⟩ | ⟨j, e, h1, h2, h3⟩
  · have h0 := h { w with heap := w.heap.setIfInBounds m (.map (es.push { key := enc k, val := z, born := clock }) (clock + 1)) } es.size (clock : Int)
    unfold Wx XZ at h0
    rw [(he.none h2).1, (he.none h2).2] at h0
    refine yi (v := .tuple #[z, .int .i64 (clock : Int)]) (w' := { w with heap := w.heap.setIfInBounds m (.map (es.push { key := enc k, val := z, born := clock }) (clock + 1)) }) ?_ (h0 ⟨_, _, (heap_set hb).1, stamped_push hs h2, Xk he k z clock, by simp [hcl], { key := enc k, val := z, born := clock }, by simp, rfl⟩ ?_ ?_ (Zy hb))
    · simp [execOp, hx, hy, Instr.mapEntry, run_underlying hU, MapKept.run_getObj_map hb, hK.check, h1, hZ, MapKept.run_setObj_map _ hb, goInt, go_sem]
    · intro v
      have hl : es.size = L.length := by have := he.len; simpa using this
      simp only [hl]
      rw [List.set_append_right _ _ (Nat.le_refl _), Nat.sub_self]; rfl
    · have hl : es.size = L.length := by have := he.len; simpa using this
      exact ⟨(k, z), by rw [hl]; simp, rfl⟩
  · have hja : es[j]? = some e := by simpa using h2
    obtain ⟨hjl, hfi, hlk⟩ := he.some hK.inj hs.2.2 h2 h3
    have h0 := h { w with heap := w.heap.setIfInBounds m (.map (es.modify j fun e => { e with key := enc k }) clock) } j (e.born : Int)
    unfold Wx XZ at h0
    rw [hfi, hlk] at h0
    have hes : EntsV enc (es.modify j fun e => { e with key := enc k }).toList L := by
      have h9 := Yo he (k := k) (v := e.val) h2 (fun e => { e with key := enc k }) rfl rfl
      obtain ⟨p, q1, q2, q3⟩ := he.at_ h2
      have : L.set j (k, e.val) = L := by
        obtain ⟨hj9, q4⟩ := List.getElem?_eq_some_iff.1 q1
        have hpk : p.1 = k := hK.inj (by rw [← q2, h3])
        rw [q3, show (k, p.2) = L[j] by rw [q4, ← hpk]]
        exact List.set_getElem_self hj9
      rwa [this] at h9
    refine yi (v := .tuple #[e.val, .int .i64 (e.born : Int)]) (w' := { w with heap := w.heap.setIfInBounds m (.map (es.modify j fun e => { e with key := enc k }) clock) }) ?_ (h0 ⟨_, _, (heap_set hb).1, stamped_modify hs _ _ (fun _ _ => rfl) (fun e' _ he' => by rw [hja] at he'; cases he'; exact h3.symm), hes, by simp [hcl], { e with key := enc k }, by simp [Array.getElem?_modify, hja], rfl⟩ (fun v => rfl) ((he.at_ h2).elim fun p hp => ⟨p, hp.1, hK.inj (by rw [← hp.2.1, h3])⟩) (Zy hb))
    simp [execOp, hx, hy, Instr.mapEntry, run_underlying hU, MapKept.run_getObj_map hb, hK.check, h1, hja, h3, hK.keeps, MapKept.run_setObj_map _ hb, goInt, go_sem]
theorem YN {t : TypeId} {x y z : Operand} {j : Nat} {s : Int} {v : Value} {p : κ × Value} (hx : ev σ x = .map (some m)) (hy : ev σ y = .int .i64 s) (hz : ev σ z = v) (hm : IsMapE enc w m L j s) (hp : L[j]? = some p)
    (h : ∀ w1, IsMap enc w1 m (L.set j (p.1, v)) → Chg (fun i => i = m) w w1 → K undef w1) : opV P ⟨d, .entryStore t x y z, ty, pos, af, gd⟩ σ w K := by
  obtain ⟨es, clock, hb, hs, he, hcl, e, hja, hbn⟩ := hm
  have h2 : es.toList[j]? = some e := by simpa using hja
  have hjs : j < es.size := (Array.getElem?_eq_some_iff.1 hja).1
  have hej : es[j] = e := (Array.getElem?_eq_some_iff.1 hja).2
  have hfi : es.findIdx? (fun e => (e.born : Int) == s) = some j := by
    rw [Array.findIdx?_eq_some_iff_getElem]
    refine ⟨hjs, by simp [hej, hbn], fun i hi => ?_⟩
    have := List.pairwise_iff_getElem.1 (List.pairwise_map.1 hs.2.1) i j (by simp; omega) (by simpa using hjs) hi
    simp only [Array.getElem_toList] at this
    rw [hej] at this
    have h9 : ¬ ((es[i].born : Int) = s) := fun e9 => this (by omega)
    simpa using h9
  obtain ⟨q, q1, q2, q3⟩ := he.at_ h2
  rw [hp] at q1
  cases q1
  refine ZF (w' := { w with heap := w.heap.setIfInBounds m (.map (es.modify j fun e => { e with val := v }) clock) }) ?_ (h _ ?_ (Zy hb))
  · simp [execOp, hx, hy, hz, Instr.entryStore, MapKept.run_getObj_map hb, asInt, hfi, MapKept.run_setObj_map _ hb, go_sem]
  · exact ⟨_, _, (heap_set hb).1, stamped_modify hs _ _ (fun _ _ => rfl) (fun e' _ he' => rfl), Yo he h2 _ q2 rfl, by simp [hcl]⟩
end
end Go.Proofs.YtlblilbmpdejgaaDoor
/- Maps with structs as keys, each value with memory of its own. -/
namespace Go.Proofs.YtlblilbmpdejgaaDoor
open Go.RowKit Go.MapKept

section
variable {κ β : Type} [DecidableEq κ]
theorem Ye {L : List (κ × β)} {k q : κ} {v : β} : yC (L ++ [(k, v)]) q = (yC L q).or (if k = q then some v else none) := by
  unfold yC
  rw [List.find?_append]
  cases h : L.find? fun p => decide (p.1 = q) with
  | some p => simp
  | none => by_cases e : k = q <;> simp [List.find?, e]
theorem Xu {L : List (κ × β)} {k : κ} (h : (L.findIdx? fun p => decide (p.1 = k)) = none) : yC L k = none := by
  rw [List.findIdx?_eq_none_iff] at h
  unfold yC
  rw [Option.map_eq_none_iff, List.find?_eq_none]
  intro p hp
  simp [h p hp]
theorem Up {L : List (κ × β)} {k q : κ} {v : β} {j : Nat} {p : κ × β} (hj : L[j]? = some p) (hp : p.1 = k) (hf : ∀ i, i < j → ∀ r, L[i]? = some r → r.1 ≠ k) : yC (L.set j (k, v)) q = if k = q then some v else yC L q := by
  induction L generalizing j with
  | nil => simp at hj
  | cons a L ih =>
    cases j with
    | zero =>
      simp only [List.getElem?_cons_zero, Option.some.injEq] at hj
      subst hj
      unfold yC
      by_cases e : k = q
      · subst e; simp
      · simp [e, hp]
    | succ j =>
      have h1 := ih (j := j) (by simpa using hj) (fun i hi r hr => hf (i + 1) (by omega) r (by simpa using hr))
      have h0 := hf 0 (by omega) a rfl
      unfold yC at h1 ⊢
      rw [List.set_cons_succ, List.find?_cons, List.find?_cons]
      by_cases e : a.1 = q
      · have : ¬ k = q := fun e2 => h0 (by rw [e, e2])
        simp [e, this]
      · simp only [e, decide_false]
        exact h1
theorem Xy {L : List (κ × β)} {k : κ} {j : Nat} (h : (L.findIdx? fun p => decide (p.1 = k)) = some j) : (∃ p, L[j]? = some p ∧ p.1 = k) ∧ ∀ i, i < j → ∀ r, L[i]? = some r → r.1 ≠ k := by
  rw [List.findIdx?_eq_some_iff_getElem] at h
  obtain ⟨hj, h1, h2⟩ := h
  refine ⟨⟨L[j], List.getElem?_eq_getElem hj, by simpa using h1⟩, fun i hi r hr => ?_⟩
  have := h2 i hi
  obtain ⟨hil, e⟩ := List.getElem?_eq_some_iff.1 hr
  rw [← e]; simpa using this
theorem Xg (L : List (κ × β)) (k q : κ) (v : β) : yC (XZ L k v) q = if k = q then some v else yC L q := by
  unfold XZ
  split
  · rename_i j hj
    obtain ⟨⟨p, h1, h2⟩, h3⟩ := Xy hj
    exact Up h1 h2 h3
  · rename_i hj
    rw [Ye]
    by_cases e : k = q
    · subst e; rw [Xu hj]; simp
    · simp [e]
theorem ZH (L : List (κ × β)) (k q : κ) (z : β) (h : ¬ k = q) : yC (Wx L k z) q = yC L q := by
  unfold Wx
  split
  · rfl
  · rw [Ye]; simp [h]
end

def Zr {κ α : Type} [DecidableEq κ] (X : κ → Option α) (k : κ) (x : α) : κ → Option α := fun q => if k = q then some x else X q

section
variable {κ α : Type} [DecidableEq κ]
def ValAt (E : Value → α → HP) (w : World) (F : Nat → Prop) : Option Value → Option α → Prop
  | some v, some x => (E v x).p w F
  | none, none => True
  | _, _ => False
theorem ValAt.loc {E : Value → α → HP} {w w' : World} {F F' : Nat → Prop} : ∀ {v : Option Value} {x : Option α}, ValAt E w F v x → (∀ b, F b → b < w.heap.size → w'.heap[b]? = w.heap[b]? ∧ F' b) → ValAt E w' F' v x
  | some v, some x, h, hf => (E v x).loc h hf
  | none, none, _, _ => trivial
  | some _, none, h, _ => h.elim
  | none, some _, h, _ => h.elim
theorem ValAt.isSome {E : Value → α → HP} {w : World} {F : Nat → Prop} : ∀ {v : Option Value} {x : Option α}, ValAt E w F v x → v.isSome = x.isSome
  | some _, some _, _ => rfl
  | none, none, _ => rfl
  | some _, none, h => h.elim
  | none, some _, h => h.elim
structure Spread (w : World) (m : Nat) (f : Nat → Prop) (g : κ → Nat → Prop) : Prop where
  sub : ∀ k b, g k b → f b ∧ b < w.heap.size ∧ b ≠ m
  apart : ∀ k k', k ≠ k' → ∀ b, g k b → ¬ g k' b
theorem Spread.loc {w w' : World} {m : Nat} {f f' : Nat → Prop} {g : κ → Nat → Prop} (h : Spread w m f g) (hf : ∀ b, f b → b < w.heap.size → w'.heap[b]? = w.heap[b]? ∧ f' b) : Spread w' m f' g :=
  ⟨fun k b hb => ⟨(hf b (h.sub k b hb).1 (h.sub k b hb).2.1).2, by
    obtain ⟨h1, h2, _⟩ := h.sub k b hb
    have := (hf b h1 h2).1
    rw [Array.getElem?_eq_getElem h2] at this
    exact (Array.getElem?_eq_some_iff.1 this).1, (h.sub k b hb).2.2⟩, h.apart⟩
theorem Spread.loc2 {w w' : World} {m : Nat} {f : Nat → Prop} {g : κ → Nat → Prop} (h : Spread w m f g) (hz : w.heap.size ≤ w'.heap.size) : Spread w' m f g := ⟨fun k b hb => ⟨(h.sub k b hb).1, Nat.lt_of_lt_of_le (h.sub k b hb).2.1 hz, (h.sub k b hb).2.2⟩, h.apart⟩
def yw (enc : κ → Value) (E : Value → α → HP) (m : Nat) (X : κ → Option α) : HP := ⟨fun w f => ∃ (R : List (κ × Value)) (g : κ → Nat → Prop), f m ∧ IsMap enc w m R ∧ (∀ k, ValAt E w (g k) (yC R k) (X k)) ∧ Spread w m f g, fun {w w' f f'} h hf => by
  obtain ⟨R, g, hm, ⟨es, c, hb, r⟩, hv, hs⟩ := h
  exact ⟨R, g, (hf m hm (xn hb)).2, ⟨es, c, ((hf m hm (xn hb)).1).trans hb, r⟩, fun k => (hv k).loc (fun b hg hlt => ⟨(hf b (hs.sub k b hg).1 hlt).1, hg⟩), hs.loc hf⟩⟩
def xV (enc : κ → Value) (E : Value → α → HP) (z : Value) (m : Nat) (X : κ → Option α) (k : κ) (v : Value) : HP := ⟨fun w f => ∃ (R : List (κ × Value)) (g : κ → Nat → Prop), f m ∧ IsMap enc w m R ∧ (yC R k).getD z = v ∧ (yC R k).isSome = (X k).isSome ∧ (∀ q, q ≠ k → ValAt E w (g q) (yC R q) (X q)) ∧ Spread w m f g, fun {w w' f f'} h hf => by
  obtain ⟨R, g, hm, ⟨es, c, hb, r⟩, h1, h2, hv, hs⟩ := h
  exact ⟨R, g, (hf m hm (xn hb)).2, ⟨es, c, ((hf m hm (xn hb)).1).trans hb, r⟩, h1, h2, fun q hq => (hv q hq).loc (fun b hg hlt => ⟨(hf b (hs.sub q b hg).1 hlt).1, hg⟩), hs.loc hf⟩⟩
def XM (enc : κ → Value) (E : Value → α → HP) (m : Nat) (X : κ → Option α) (k : κ) (s : Int) : HP := ⟨fun w f => ∃ (R : List (κ × Value)) (g : κ → Nat → Prop) (j : Nat), f m ∧ IsMapE enc w m R j s ∧ (∀ v q, yC (R.set j (k, v)) q = if k = q then some v else yC R q) ∧ (∃ p, R[j]? = some p ∧ p.1 = k) ∧ (∀ q, q ≠ k → ValAt E w (g q) (yC R q) (X q)) ∧ Spread w m f g, fun {w w' f f'} h hf => by
  obtain ⟨R, g, j, hm, ⟨es, c, hb, r⟩, h1, h2, hv, hs⟩ := h
  exact ⟨R, g, j, (hf m hm (xn hb)).2, ⟨es, c, ((hf m hm (xn hb)).1).trans hb, r⟩, h1, h2, fun q hq => (hv q hq).loc (fun b hg hlt => ⟨(hf b (hs.sub q b hg).1 hlt).1, hg⟩), hs.loc hf⟩⟩
def Yp (E : Value → α → HP) (v : Value) : Option α → HP
  | some x => E v x
  | none => Emp
end

section
variable {κ α : Type} [DecidableEq κ] {enc : κ → Value} {E : Value → α → HP} {z : Value} {m : Nat} {X : κ → Option α} {k : κ} {v : Value} {G : Nat → Prop} {W w : World} {As : List HP}
theorem Sep.mapoNew {w' : World} (h : Sep G W As w) (hn : New w w' w.heap.size (.map #[] 0)) : Sep G W (yw enc E w.heap.size (fun _ : κ => (none : Option α)) :: As) w' :=
  h.push hn.ext (f := fun i => i = w.heap.size) ⟨[], fun _ _ => False, rfl, ⟨#[], 0, hn.at_, stamped_empty 0, rfl, rfl⟩, fun _ => trivial, ⟨fun _ _ h => h.elim, fun _ _ _ _ h => h.elim⟩⟩ (fun i hi => by omega)
theorem Sep.mapoTake (h : Sep G W (yw enc E m X :: As) w) (z : Value) (k : κ) : ∃ v, (X k = none → v = z) ∧ Sep G W (xV enc E z m X k v :: Yp E v (X k) :: As) w := by
  obtain ⟨fs, q1, q2⟩ := h.parts
  obtain ⟨⟨R, g, hm, hM, hv, hs⟩, hl⟩ := q1 0 _ rfl
  refine ⟨(yC R k).getD z, fun hx => ?_, ?_⟩
  · have := (hv k).isSome
    rw [hx] at this
    cases hR : yC R k with
    | none => rfl
    | some u => rw [hR] at this; cases this
  · have h1 : Sep G W (Star [xV enc E z m X k ((yC R k).getD z), Yp E ((yC R k).getD z) (X k)] :: As) w := by
      refine ⟨h.kept, fs, fun i C hC => ?_, fun i j hi hj => q2 i j (by simpa using hi) (by simpa using hj)⟩
      cases i with
      | succ i => exact q1 (i + 1) C (by simpa using hC)
      | zero =>
        simp only [List.getElem?_cons_zero, Option.some.injEq] at hC
        subst hC
        refine ⟨⟨fun i b => if i = 0 then fs 0 b ∧ ¬ g k b ∧ b < w.heap.size else g k b, fun i C hC => ?_, fun i j hi hj hne b hb => ?_⟩, hl⟩
        · match i, hC with
          | 0, hC =>
            simp only [List.getElem?_cons_zero, Option.some.injEq] at hC
            subst hC
            refine ⟨⟨R, fun q b => if q = k then False else g q b, ⟨hm, fun hg => (hs.sub k m hg).2.2 rfl, hM.lt⟩, hM, rfl, (hv k).isSome, fun q hq => ?_, ⟨fun q b hb => ?_, fun q q' hne b hb hb' => ?_⟩⟩, fun b hb => ⟨hb.1, hb.2.2⟩⟩
            · simp only [if_neg hq]; exact hv q
            · by_cases e : q = k
              · rw [if_pos e] at hb; exact hb.elim
              · rw [if_neg e] at hb
                have := hs.sub q b hb
                exact ⟨⟨this.1, fun h9 => hs.apart q k e b hb h9, this.2.1⟩, this.2.1, this.2.2⟩
            · by_cases e : q = k
              · rw [if_pos e] at hb; exact hb.elim
              · by_cases e' : q' = k
                · rw [if_pos e'] at hb'; exact hb'.elim
                · rw [if_neg e] at hb; rw [if_neg e'] at hb'; exact hs.apart q q' hne b hb hb'
          | 1, hC =>
            simp only [List.getElem?_cons_succ, List.getElem?_cons_zero, Option.some.injEq] at hC
            subst hC
            refine ⟨?_, fun b hb => ⟨(hs.sub k b hb).1, (hs.sub k b hb).2.1⟩⟩
            have := hv k
            cases hR : yC R k with
            | none =>
              rw [hR] at this
              cases hX : X k with
              | none => exact trivial
              | some x => rw [hX] at this; exact this.elim
            | some u =>
              rw [hR] at this
              cases hX : X k with
              | none => rw [hX] at this; exact this.elim
              | some x => rw [hX] at this; exact this
          | i + 2, hC => simp at hC
        · simp only [List.length_cons, List.length_nil] at hi hj
          match i, j, hb with
          | 0, 0, _ => exact absurd rfl hne
          | 0, 1, hb => exact hb.2.1
          | 1, 0, hb => exact fun h9 => h9.2.1 hb
          | 1, 1, _ => exact absurd rfl hne
          | i + 2, _, _ => omega
          | 0, j + 2, _ => omega
          | 1, j + 2, _ => omega
    exact h1.openStar
theorem ZN {f : Nat → Prop} {g : κ → Nat → Prop} {f0 f1 : Nat → Prop} {w1 : World} (hs : Spread w m f0 g) (h0 : ∀ b, f0 b → f b ∧ b < w.heap.size) (h1 : ∀ b, f1 b → f b ∧ b < w.heap.size) (hd : ∀ b, f0 b → ¬ f1 b) (hm : f0 m) (hz : w.heap.size ≤ w1.heap.size) : Spread w1 m f (fun q b => if q = k then f1 b else g q b) := by
  refine ⟨fun q b hb => ?_, fun q q' hne b hb hb' => ?_⟩
  · by_cases e : q = k
    · simp only [if_pos e] at hb
      exact ⟨(h1 b hb).1, Nat.lt_of_lt_of_le (h1 b hb).2 hz, fun e2 => hd m hm (e2 ▸ hb)⟩
    · simp only [if_neg e] at hb
      have := hs.sub q b hb
      exact ⟨(h0 b this.1).1, Nat.lt_of_lt_of_le this.2.1 hz, this.2.2⟩
  · by_cases e : q = k
    · simp only [if_pos e] at hb
      have e' : ¬ q' = k := fun e2 => hne (e.trans e2.symm)
      simp only [if_neg e'] at hb'
      exact hd b (hs.sub q' b hb').1 hb
    · simp only [if_neg e] at hb
      by_cases e' : q' = k
      · simp only [if_pos e'] at hb'
        exact hd b (hs.sub q b hb).1 hb'
      · simp only [if_neg e'] at hb'
        exact hs.apart q q' hne b hb hb'
theorem Sep.mapoPut (h : Sep G W (xV enc E z m X k v :: Yp E v (X k) :: As) w) : Sep G W (yw enc E m X :: As) w := by
  have hst := h.closeStar (Bs := [xV enc E z m X k v, Yp E v (X k)])
  refine hst.impl (i := 0) rfl (fun f hA => ?_)
  obtain ⟨gs, r1, r2⟩ := hA
  obtain ⟨⟨R, g, hm, hM, hz, hi, hv, hs⟩, hf0⟩ := r1 0 _ rfl
  obtain ⟨hN, hf1⟩ := r1 1 _ rfl
  have r2' := r2 0 1 (by simp) (by simp) (by simp)
  refine ⟨R, fun q b => if q = k then gs 1 b else g q b, (hf0 m hm).1, hM, fun q => ?_, ZN hs hf0 hf1 r2' hm (Nat.le_refl _)⟩
  by_cases e : q = k
  · subst e
    simp only [if_true]
    cases hR : yC R q with
    | none =>
      rw [hR] at hi
      cases hX : X q with
      | none => exact trivial
      | some x => rw [hX] at hi; cases hi
    | some u =>
      rw [hR] at hi hz
      cases hX : X q with
      | none => rw [hX] at hi; cases hi
      | some x => rw [hX] at hN; simp only [Option.getD_some] at hz; subst hz; exact hN
  · simp only [if_neg e]
    exact hv q e
theorem Sep.mapo1 (h : Sep G W As w) {i : Nat} (hi : As[i]? = some (xV enc E z m X k v)) : ∃ R, IsMap enc w m R ∧ (yC R k).getD z = v ∧ (yC R k).isSome = (X k).isSome := by
  obtain ⟨f, ⟨R, g, hm, hM, hz, hi, _⟩, _⟩ := h.get hi; exact ⟨R, hM, hz, hi⟩
end

section
variable {P : Program} {d : Option Tmp} {ty : TypeId} {pos : String} {af : Array Edge} {gd : Option (Nat × Bool)} {σ : Env} {w : World} {K : Value → World → Prop} {κ α : Type} [DecidableEq κ] {enc : κ → Value} {E : Value → α → HP} {z : Value} {m : Nat} {X : κ → Option α} {k : κ} {v : Value} {G : Nat → Prop} {W : World} {As : List HP}
theorem VB {t kt et : TypeId} {x y : Operand} {i : Nat} (h : Sep G W As w) (hi : As[i]? = some (xV enc E z m X k v)) (hK : KLaw P kt enc) (hU : P.underlying t = some (.map kt et)) (hZ : ∀ w, (zeroValue et).run P w = .ok z w)
    (hx : ev σ x = .map (some m)) (hy : ev σ y = enc k) (hk : K v w) : opV P ⟨d, .lookup t x y false, ty, pos, af, gd⟩ σ w K := by
  obtain ⟨R, hM, e, _⟩ := h.mapo1 hi
  exact Vi hK hU hZ hx hy hM (by rw [e]; exact hk)
theorem Zv {t kt et : TypeId} {x y : Operand} {i : Nat} (h : Sep G W As w) (hi : As[i]? = some (xV enc E z m X k v)) (hK : KLaw P kt enc) (hU : P.underlying t = some (.map kt et)) (hZ : ∀ w, (zeroValue et).run P w = .ok z w)
    (hx : ev σ x = .map (some m)) (hy : ev σ y = enc k) (hk : K (.tuple #[v, .bool (X k).isSome]) w) : opV P ⟨d, .lookup t x y true, ty, pos, af, gd⟩ σ w K := by
  obtain ⟨R, hM, e, e2⟩ := h.mapo1 hi
  exact Wp hK hU hZ hx hy hM (by rw [e, e2]; exact hk)
theorem Xx {t kt et : TypeId} {x y u : Operand} {v' : Value} {x' : α} (h : Sep G W (xV enc E z m X k v :: E v' x' :: As) w) (hK : KLaw P kt enc) (hU : P.underlying t = some (.map kt et)) (hx : ev σ x = .map (some m)) (hy : ev σ y = enc k) (hu : ev σ u = v')
    (hk : ∀ w1, Sep G W (yw enc E m (Zr X k x') :: As) w1 → K undef w1) : opV P ⟨d, .mapUpdate t x y u, ty, pos, af, gd⟩ σ w K := by
  have hst := h.closeStar (Bs := [xV enc E z m X k v, E v' x'])
  obtain ⟨ff, q1, q2⟩ := hst.parts
  obtain ⟨⟨gs, r1, r2⟩, hl⟩ := q1 0 _ rfl
  obtain ⟨⟨R, g, hm, hM, hz, hi, hv, hs⟩, hf0⟩ := r1 0 _ rfl
  obtain ⟨hN, hf1⟩ := r1 1 _ rfl
  have r2' := r2 0 1 (by simp) (by simp) (by simp)
  refine Xv hK hU hx hy hu hM (fun w1 hM1 hc => hk w1 ?_)
  have keep : ∀ b, b ≠ m → b < w.heap.size → w1.heap[b]? = w.heap[b]? := fun b hb hlt => hc.block b hlt hb
  have key : (yw enc E m (Zr X k x')).p w1 (ff 0) := by
    refine ⟨XZ R k v', fun q b => if q = k then gs 1 b else g q b, (hf0 m hm).1, hM1, fun q => ?_, ZN hs hf0 hf1 r2' hm hc.size⟩
    rw [Xg]
    unfold Zr
    by_cases e : q = k
    · subst e
      simp only [if_true]
      exact (E v' x').loc hN (fun b hb hlt => ⟨keep b (fun e2 => r2' m hm (e2 ▸ hb)) hlt, hb⟩)
    · simp only [if_neg e, if_neg (Ne.symm e)]
      exact (hv q e).loc (fun b hb hlt => ⟨keep b (hs.sub q b hb).2.2 hlt, hb⟩)
  refine ⟨hst.kept.chg hc (fun b hb => by subst hb; exact (hl _ (hf0 _ hm).1).1), ff, fun i C hC => ?_, fun i j hi hj => q2 i j (by simpa using hi) (by simpa using hj)⟩
  cases i with
  | zero =>
    simp only [List.getElem?_cons_zero, Option.some.injEq] at hC
    subst hC
    exact ⟨key, fun b hb => ⟨(hl b hb).1, Nat.lt_of_lt_of_le (hl b hb).2 hc.size⟩⟩
  | succ i =>
    obtain ⟨hp, hlp⟩ := q1 (i + 1) C (by simpa using hC)
    have hne : ∀ b, ff (i + 1) b → b ≠ m := fun b hb e2 => by
      subst e2
      exact q2 0 (i + 1) (by simp) (by have := (List.getElem?_eq_some_iff.1 hC).1; simpa using this) (by omega) _ (hf0 _ hm).1 hb
    exact ⟨C.loc hp (fun b hb hlt => ⟨keep b (hne b hb) hlt, hb⟩), fun b hb => ⟨(hlp b hb).1, Nat.lt_of_lt_of_le (hlp b hb).2 hc.size⟩⟩
theorem Wf {t kt et : TypeId} {x y : Operand} (h : Sep G W (xV enc E z m X k v :: As) w) (hK : KLaw P kt enc) (hU : P.underlying t = some (.map kt et)) (hZ : ∀ w, (zeroValue et).run P w = .ok z w) (hx : ev σ x = .map (some m)) (hy : ev σ y = enc k)
    (hk : ∀ w1 s, Sep G W (XM enc E m X k s :: As) w1 → K (.tuple #[v, .int .i64 s]) w1) : opV P ⟨d, .mapEntry t x y, ty, pos, af, gd⟩ σ w K := by
  obtain ⟨ff, q1, q2⟩ := h.parts
  obtain ⟨⟨R, g, hm, hM, hz, hi, hv, hs⟩, hl⟩ := q1 0 _ rfl
  refine Wm hK hU hZ hx hy hM (fun w1 j s hM1 hset hp hc => ?_)
  rw [hz]
  refine hk w1 s ?_
  have keep : ∀ b, b ≠ m → b < w.heap.size → w1.heap[b]? = w.heap[b]? := fun b hb hlt => hc.block b hlt hb
  have key : (XM enc E m X k s).p w1 (ff 0) := by
    refine ⟨Wx R k z, g, j, hm, hM1, fun u q => ?_, hp, fun q hq => ?_, hs.loc2 hc.size⟩
    · rw [hset u, Xg]
      by_cases e : k = q
      · rw [if_pos e, if_pos e]
      · rw [if_neg e, if_neg e, ZH _ _ _ _ e]
    · rw [ZH _ _ _ _ (Ne.symm hq)]
      exact (hv q hq).loc (fun b hb hlt => ⟨keep b (hs.sub q b hb).2.2 hlt, hb⟩)
  refine ⟨h.kept.chg hc (fun b hb => by subst hb; exact (hl _ hm).1), ff, fun i C hC => ?_, fun i j hi hj => q2 i j (by simpa using hi) (by simpa using hj)⟩
  cases i with
  | zero =>
    simp only [List.getElem?_cons_zero, Option.some.injEq] at hC
    subst hC
    exact ⟨key, fun b hb => ⟨(hl b hb).1, Nat.lt_of_lt_of_le (hl b hb).2 hc.size⟩⟩
  | succ i =>
    obtain ⟨hp, hlp⟩ := q1 (i + 1) C (by simpa using hC)
    have hne : ∀ b, ff (i + 1) b → b ≠ m := fun b hb e2 => by
      subst e2
      exact q2 0 (i + 1) (by simp) (by have := (List.getElem?_eq_some_iff.1 hC).1; simpa using this) (by omega) _ hm hb
    exact ⟨C.loc hp (fun b hb hlt => ⟨keep b (hne b hb) hlt, hb⟩), fun b hb => ⟨(hlp b hb).1, Nat.lt_of_lt_of_le (hlp b hb).2 hc.size⟩⟩
theorem YS {t : TypeId} {x y u : Operand} {s : Int} {v' : Value} {x' : α} (h : Sep G W (XM enc E m X k s :: E v' x' :: As) w) (hx : ev σ x = .map (some m)) (hy : ev σ y = .int .i64 s) (hu : ev σ u = v')
    (hk : ∀ w1, Sep G W (yw enc E m (Zr X k x') :: As) w1 → K undef w1) : opV P ⟨d, .entryStore t x y u, ty, pos, af, gd⟩ σ w K := by
  have hst := h.closeStar (Bs := [XM enc E m X k s, E v' x'])
  obtain ⟨ff, q1, q2⟩ := hst.parts
  obtain ⟨⟨gs, r1, r2⟩, hl⟩ := q1 0 _ rfl
  obtain ⟨⟨R, g, j, hm, hM, hset, ⟨p, hp, hpk⟩, hv, hs⟩, hf0⟩ := r1 0 _ rfl
  obtain ⟨hN, hf1⟩ := r1 1 _ rfl
  have r2' := r2 0 1 (by simp) (by simp) (by simp)
  refine YN hx hy hu hM hp (fun w1 hM1 hc => hk w1 ?_)
  rw [hpk] at hM1
  have keep : ∀ b, b ≠ m → b < w.heap.size → w1.heap[b]? = w.heap[b]? := fun b hb hlt => hc.block b hlt hb
  have key : (yw enc E m (Zr X k x')).p w1 (ff 0) := by
    refine ⟨R.set j (k, v'), fun q b => if q = k then gs 1 b else g q b, (hf0 m hm).1, hM1, fun q => ?_, ZN hs hf0 hf1 r2' hm hc.size⟩
    rw [hset v' q]
    unfold Zr
    by_cases e : q = k
    · subst e
      simp only [if_true]
      exact (E v' x').loc hN (fun b hb hlt => ⟨keep b (fun e2 => r2' m hm (e2 ▸ hb)) hlt, hb⟩)
    · simp only [if_neg e, if_neg (Ne.symm e)]
      exact (hv q e).loc (fun b hb hlt => ⟨keep b (hs.sub q b hb).2.2 hlt, hb⟩)
  refine ⟨hst.kept.chg hc (fun b hb => by subst hb; exact (hl _ (hf0 _ hm).1).1), ff, fun i C hC => ?_, fun i j hi hj => q2 i j (by simpa using hi) (by simpa using hj)⟩
  cases i with
  | zero =>
    simp only [List.getElem?_cons_zero, Option.some.injEq] at hC
    subst hC
    exact ⟨key, fun b hb => ⟨(hl b hb).1, Nat.lt_of_lt_of_le (hl b hb).2 hc.size⟩⟩
  | succ i =>
    obtain ⟨hp, hlp⟩ := q1 (i + 1) C (by simpa using hC)
    have hne : ∀ b, ff (i + 1) b → b ≠ m := fun b hb e2 => by
      subst e2
      exact q2 0 (i + 1) (by simp) (by have := (List.getElem?_eq_some_iff.1 hC).1; simpa using this) (by omega) _ (hf0 _ hm).1 hb
    exact ⟨C.loc hp (fun b hb hlt => ⟨keep b (hne b hb) hlt, hb⟩), fun b hb => ⟨(hlp b hb).1, Nat.lt_of_lt_of_le (hlp b hb).2 hc.size⟩⟩
end
end Go.Proofs.YtlblilbmpdejgaaDoor
/- The program's structs. -/
namespace Go.Proofs.YtlblilbmpdejgaaDoor
open Go.RowKit

structure Ent where
  ev : Ev
  void : Bool
  byO : Int
  byS : Int
  deriving DecidableEq, Inhabited
structure Ent.Ok (e : Ent) : Prop where
  ev : e.ev.Ok
  byO : InR e.byO
  byS : InR e.byS
def Ent.cells (e : Ent) (d1 : Value) : List Value := e.ev.cells d1 ++ [.bool e.void, .int .i64 e.byO, .int .i64 e.byS]
instance : Rep Ent where
  k := 13
  bytes := 120
  bpos := by decide
  kpos := by decide
  rd w F cs e := ∃ d1, cs = e.cells d1 ∧ RdS w F d1 e.ev.deps ∧ e.Ok
  len h := by obtain ⟨d1, rfl, h1, ho⟩ := h; rfl
  one h := by obtain ⟨d1, rfl, h1, ho⟩ := h; exact ya ⟨rfl, rfl, rfl, h1.sl.one, rfl, rfl, rfl, rfl, rfl, rfl, rfl, rfl, rfl, trivial⟩
  mono h hF := by obtain ⟨d1, rfl, h1, ho⟩ := h; exact ⟨d1, rfl, h1.mono hF, ho⟩
theorem RdS.ent {w : World} {F : Nat → Prop} {v : Value} {l : List Ent} (h : RdS w F v l) {i : Nat} (hi : i < l.length) :
    CellsAt w (sb v) (so v + i * 13) (l[i].cells (zi w (sb v) (so v + i * 13 + 3))) ∧ RdS w F (zi w (sb v) (so v + i * 13 + 3)) l[i].ev.deps ∧ l[i].Ok := by
  obtain ⟨cs, hc, d1, rfl, h1, ho⟩ := h.at_ i hi
  have ed1 : (zi w (sb v) (so v + i * 13 + 3)) = d1 := by
    have : w.cell? ⟨sb v, so v + i * 13 + 3, none⟩ = some d1 := hc.get (j := 3) rfl
    simp only [zi, this]; rfl
  rw [ed1]
  exact ⟨hc, h1, ho⟩
theorem Ent.eq_iff {a b : Ent} : a = b ↔ a.ev = b.ev ∧ a.void = b.void ∧ a.byO = b.byO ∧ a.byS = b.byS := by
  cases a; cases b; simp
structure Sta where
  ver : Int
  cls : List Cel
  deriving DecidableEq, Inhabited
structure Sta.Ok (e : Sta) : Prop where
  ver : InR e.ver
def Sta.cells (e : Sta) (d1 : Value) : List Value := [.int .i64 e.ver, d1]
instance : Rep Sta where
  k := 2
  bytes := 32
  bpos := by decide
  kpos := by decide
  rd w F cs e := ∃ d1, cs = e.cells d1 ∧ RdS w F d1 e.cls ∧ e.Ok
  len h := by obtain ⟨d1, rfl, h1, ho⟩ := h; rfl
  one h := by obtain ⟨d1, rfl, h1, ho⟩ := h; exact ya ⟨rfl, h1.sl.one, trivial⟩
  mono h hF := by obtain ⟨d1, rfl, h1, ho⟩ := h; exact ⟨d1, rfl, h1.mono hF, ho⟩
end Go.Proofs.YtlblilbmpdejgaaDoor
/- Events folded: what comes of them, in plain numbers. -/
namespace Go.Proofs.YtlblilbmpdejgaaDoor

theorem ZE {α : Type} {P : List α → Prop} (h0 : P []) (h1 : ∀ l x, P l → P (l ++ [x])) (l : List α) : P l := by
  rw [← List.reverse_reverse l]
  induction l.reverse with
  | nil => exact h0
  | cons x l ih => rw [List.reverse_cons]; exact h1 _ _ ih
def xv (v : List Int) (o : Int) : Int := if o < 0 ∨ (v.length : Int) ≤ o then 0 else max (v.getD o.toNat 0) 0
def xX (a b : Ev) : Bool := decide (a.seq ≤ xv b.deps a.origin)
def xi (a b : Ev) : Bool := !decide (a.origin = b.origin ∧ a.seq = b.seq) && !xX a b && !xX b a
def Zz (k oA aA oB aB : Int) : Bool :=
  if k = 2 then decide (oA = 2) && decide (oB = 2) && !decide (oA = oB ∧ aA = aB)
  else if k = 4 then decide (oA = 5) && decide (oB = 5) && !decide (oA = oB ∧ aA = aB)
  else if k = 3 then (decide (oA = 3 ∧ aA = aB) && decide (oB = 4 ∧ aB = aA)) || (decide (oA = 4 ∧ aA = aB) && decide (oB = 3 ∧ aB = aA))
  else false
def yG (f : Fld) (x e : Ev) : Bool := (decide (f.policy = 2) || (decide (f.policy = 3) && decide (e.arg < x.arg))) && Zz f.kind x.op x.arg e.op e.arg && xi x e

def onL (k : Int × Int) (x : Ent) : Bool := !x.void && decide (x.ev.typ = k.1 ∧ x.ev.agg = k.2)
def on3 (k : Int × Int × Int) (x : Ent) : Bool := !x.void && decide (x.ev.typ = k.1 ∧ x.ev.agg = k.2.1 ∧ x.ev.field = k.2.2)
def Zj (d : Dcl) (ty : Int) : Typ := d.types.getD ty.toNat default
def Qw (t : Typ) : List Cel := List.replicate t.fields.length (⟨0, []⟩ : Cel)
def zW (d : Dcl) (k : Int × Int) (L : List Ent) : List Cel := L.foldl (fun c x => if onL k x then doL (Zj d k.1) c x.ev.field x.ev.op x.ev.arg else c) (Qw (Zj d k.1))
def zZ (k : Int × Int) (L : List Ent) : Nat := (L.filter (onL k)).length
def zY (k : Int × Int × Int) (L : List Ent) : List Ev := (L.filter (on3 k)).map (·.ev)
def zK (d : Dcl) (L : List Ent) (e : Ev) : Bool × Int × Int :=
  if ¬ yJ d e.typ e.field e.op e.arg = 0 then (true, 0, 0)
  else match (zY (e.typ, e.agg, e.field) L).find? (fun x => yG ((Zj d e.typ).fields.getD e.field.toNat default) x e) with
    | some x => (true, x.origin, x.seq)
    | none => if ¬ yU (Zj d e.typ) (zW d (e.typ, e.agg) L) e.field e.op e.arg = 0 then (true, 0, 0) else (false, 0, 0)
def zS (d : Dcl) (L : List Ent) (e : Ev) : Ent := ⟨e, (zK d L e).1, (zK d L e).2.1, (zK d L e).2.2⟩
def yn (d : Dcl) (l : List Ev) : List Ent := l.foldl (fun L e => L ++ [zS d L e]) []
def zp (d : Dcl) (L : List Ent) : Int × Int → Option (Nat × List Cel) := fun k => if zZ k L = 0 then none else some (zZ k L, zW d k L)
def yu (L : List Ent) : Int × Int × Int → Option (List Ev) := fun k => if (zY k L).isEmpty then none else some (zY k L)
def Inv (d : Dcl) (L : List Ent) : Prop := ∀ ty ag : Int, 0 ≤ ty → ty < d.types.length → Right (Zj d ty) (zW d (ty, ag) L)

theorem xN (d : Dcl) (l : List Ev) (e : Ev) : yn d (l ++ [e]) = yn d l ++ [zS d (yn d l) e] := by unfold yn; rw [List.foldl_append]; rfl
theorem xt (d : Dcl) (k : Int × Int) (L : List Ent) (x : Ent) : zW d k (L ++ [x]) = if onL k x then doL (Zj d k.1) (zW d k L) x.ev.field x.ev.op x.ev.arg else zW d k L := by unfold zW; rw [List.foldl_append]; rfl
theorem xM (k : Int × Int) (L : List Ent) (x : Ent) : zZ k (L ++ [x]) = if onL k x then zZ k L + 1 else zZ k L := by
  unfold zZ
  rw [List.filter_append, List.length_append, List.filter_cons]
  split <;> simp
theorem YZ (k : Int × Int × Int) (L : List Ent) (x : Ent) : zY k (L ++ [x]) = if on3 k x then zY k L ++ [x.ev] else zY k L := by
  unfold zY
  rw [List.filter_append, List.filter_cons]
  split <;> simp
theorem YK (k : Int × Int) (L : List Ent) : zZ k L ≤ L.length := List.length_filter_le _ _
theorem UF {d : Dcl} {k : Int × Int} : ∀ {L : List Ent}, zZ k L = 0 → zW d k L = Qw (Zj d k.1) := by
  intro L
  induction L using ZE with
  | h0 => intro _; rfl
  | h1 L x ih =>
    intro h
    rw [xM] at h
    rw [xt]
    split
    · rename_i hx; rw [if_pos hx] at h; omega
    · rename_i hx; rw [if_neg hx] at h; exact ih h
theorem xq {d : Dcl} {L : List Ent} {x : Ent} (h : x.void = true) : zp d (L ++ [x]) = zp d L ∧ yu (L ++ [x]) = yu L := by
  constructor
  · funext k
    have : onL k x = false := by unfold onL; rw [h]; rfl
    unfold zp
    rw [xM, xt, this]
    rfl
  · funext k
    have : on3 k x = false := by unfold on3; rw [h]; rfl
    unfold yu
    rw [YZ, this]
    rfl
theorem WK {d : Dcl} {L : List Ent} {x : Ent} (h : x.void = false) : zp d (L ++ [x]) = Zr (zp d L) (x.ev.typ, x.ev.agg) (zZ (x.ev.typ, x.ev.agg) L + 1, doL (Zj d x.ev.typ) (zW d (x.ev.typ, x.ev.agg) L) x.ev.field x.ev.op x.ev.arg) := by
  funext k
  unfold zp Zr
  rw [xM, xt]
  by_cases e : (x.ev.typ, x.ev.agg) = k
  · subst e
    have : onL (x.ev.typ, x.ev.agg) x = true := by unfold onL; rw [h]; simp
    rw [this]
    simp
  · have : onL k x = false := by
      unfold onL
      rw [h]
      have : ¬ (x.ev.typ = k.1 ∧ x.ev.agg = k.2) := fun h9 => e (by obtain ⟨a, b⟩ := k; obtain ⟨rfl, rfl⟩ := h9; rfl)
      simp [this]
    rw [this]
    simp [e]
theorem Ut {L : List Ent} {x : Ent} (h : x.void = false) : yu (L ++ [x]) = Zr (yu L) (x.ev.typ, x.ev.agg, x.ev.field) (zY (x.ev.typ, x.ev.agg, x.ev.field) L ++ [x.ev]) := by
  funext k
  unfold yu Zr
  rw [YZ]
  by_cases e : (x.ev.typ, x.ev.agg, x.ev.field) = k
  · subst e
    have : on3 (x.ev.typ, x.ev.agg, x.ev.field) x = true := by unfold on3; rw [h]; simp
    rw [this]
    simp
  · have : on3 k x = false := by
      unfold on3
      rw [h]
      have : ¬ (x.ev.typ = k.1 ∧ x.ev.agg = k.2.1 ∧ x.ev.field = k.2.2) := fun h9 => e (by obtain ⟨a, b, c⟩ := k; obtain ⟨rfl, rfl, rfl⟩ := h9; rfl)
      simp [this]
    rw [this]
    simp [e]
theorem WJ (t : Typ) : Right t (Qw t) := VG
theorem Inv.nil (d : Dcl) : Inv d [] := fun ty ag _ _ => WJ _
theorem Yj {d : Dcl} {L : List Ent} {e : Ev} (h : (zK d L e).1 = false) : yJ d e.typ e.field e.op e.arg = 0 ∧ yU (Zj d e.typ) (zW d (e.typ, e.agg) L) e.field e.op e.arg = 0 := by
  unfold zK at h
  split at h
  · cases h
  rename_i h1
  split at h
  · cases h
  split at h
  · cases h
  rename_i h2
  exact ⟨Decidable.not_not.1 h1, Decidable.not_not.1 h2⟩
theorem Inv.snoc {d : Dcl} {L : List Ent} {e : Ev} (hd : DclOk d) (h : Inv d L) : Inv d (L ++ [zS d L e]) := by
  intro ty ag h0 h1
  rw [xt]
  split
  · rename_i hx
    unfold onL at hx
    simp only [Bool.and_eq_true, Bool.not_eq_true', decide_eq_true_eq] at hx
    obtain ⟨hv, ht, ha⟩ := hx
    obtain ⟨hf, hm⟩ := Yj (d := d) (L := L) (e := e) hv
    obtain ⟨f1, f2, hft⟩ := Yc hf
    have ht' : e.typ = ty := ht
    have ha' : e.agg = ag := ha
    subst ht' ha'
    exact UQ hft (hd.typ _ (by omega)) (h e.typ e.agg h0 h1) (QU hm)
  · exact h ty ag h0 h1
theorem Inv.run {d : Dcl} (hd : DclOk d) (l : List Ev) : Inv d (yn d l) := by
  induction l using ZE with
  | h0 => exact Inv.nil d
  | h1 l e ih => rw [xN]; exact ih.snoc hd
end Go.Proofs.YtlblilbmpdejgaaDoor
/- Rows of one's own, of whose elements the first have memory of their own, and the others share theirs. -/
namespace Go.Proofs.YtlblilbmpdejgaaDoor
open Go.RowKit

instance {α : Type} [Rep α] : Rep (Bool × α) where
  k := Rep.k α
  rd w F cs x := Rep.rd w F cs x.2
  bytes := Rep.bytes α
  bpos := Rep.bpos
  kpos := Rep.kpos
  len h := Rep.len h
  one h := Rep.one h
  mono h hF := Rep.mono h hF
def mix {α : Type} [Rep α] (G : Nat → Prop) (W : World) : Src (Bool × α) :=
  ⟨fun cs x => if x.1 then (own (α := α)).el cs x.2 else (shr (α := α) G W).el cs x.2, fun {w f cs x} h => by
    split at h
    · exact (own (α := α)).len h
    · exact (shr (α := α) G W).len h, fun {w f cs x} h => by
    split at h
    · exact (own (α := α)).one h
    · exact (shr (α := α) G W).one h⟩
def xO {α : Type} (k : Nat) (l : List α) : List (Bool × α) := (l.take k).map (Prod.mk true) ++ (l.drop k).map (Prod.mk false)
theorem xw {α : Type} (k : Nat) (l : List α) : (xO k l).length = l.length := by unfold xO; simp; omega
theorem WM {α : Type} {k i : Nat} {l : List α} (hk : k ≤ i) (hi : i < l.length) : (xO k l)[i]? = some (false, l[i]) := by
  unfold xO
  rw [List.getElem?_append_right (by simp; omega)]
  simp only [List.length_map, List.length_take, List.getElem?_map, List.getElem?_drop]
  rw [show k + (i - min k l.length) = i by omega, List.getElem?_eq_getElem hi]; rfl
theorem Uk {α : Type} {k : Nat} {l : List α} (hk : k < l.length) : (xO k l).set k (true, l[k]) = xO (k + 1) l := by
  unfold xO
  rw [List.take_succ_eq_append_getElem hk, List.map_append, List.append_assoc, List.set_append_right _ _ (by simp only [List.length_map, List.length_take]; omega), List.drop_eq_getElem_cons hk]
  simp only [List.length_map, List.length_take, List.map_cons, List.map_nil, List.singleton_append]
  rw [show k - min k l.length = 0 by omega, List.set_cons_zero]
section
variable {α : Type} [Rep α] {G : Nat → Prop} {W w : World} {As : List HP} {T : TypeId} {v : Value} {l : List α}
theorem EP.mapIn {β : Type} {q : List Value → α → Prop} {q' : List Value → β → Prop} (g : α → β) (h : ∀ cs x, q cs x → q' cs (g x)) : ∀ {css : List (List Value)} {l : List α}, EP q css l → EP q' css (l.map g)
  | [], [], _ => trivial
  | _ :: _, _ :: _, hh => ⟨h _ _ hh.1, EP.mapIn g h hh.2⟩
  | [], _ :: _, hh => hh.elim
  | _ :: _, [], hh => hh.elim
theorem EP.mapOut {β : Type} {q : List Value → α → Prop} {q' : List Value → β → Prop} (g : α → β) (h : ∀ cs x, q' cs (g x) → q cs x) : ∀ {css : List (List Value)} {l : List α}, EP q' css (l.map g) → EP q css l
  | [], [], _ => trivial
  | _ :: _, _ :: _, hh => ⟨h _ _ hh.1, EP.mapOut g h hh.2⟩
  | [], _ :: _, hh => hh.elim
  | _ :: _, [], hh => hh.elim
theorem Sep.toMix (h : Sep G W (RowE (shr G W) T v l :: As) w) : Sep G W (RowE (mix (α := α) G W) T v (xO 0 l) :: As) w := by
  refine h.impl (i := 0) rfl (fun f hA => ?_)
  obtain ⟨css, hE, hown, hrow, hsm⟩ := hA
  have e : xO 0 l = l.map (Prod.mk false) := by unfold xO; simp
  rw [e]
  exact ⟨css, EP.mapIn (Prod.mk false) (fun cs x hx => hx) hE, by rw [List.length_map]; exact hown, hrow, by rw [List.length_map]; exact hsm⟩
theorem Sep.ofMix {n : Nat} (h : Sep G W (RowE (mix (α := α) G W) T v (xO n l) :: As) w) (hn : l.length ≤ n) : Sep G W (RowE (own (α := α)) T v l :: As) w := by
  refine h.impl (i := 0) rfl (fun f hA => ?_)
  have e : xO n l = l.map (Prod.mk true) := by unfold xO; rw [List.take_of_length_le hn, List.drop_of_length_le hn]; simp
  rw [e] at hA
  obtain ⟨css, hE, hown, hrow, hsm⟩ := hA
  exact ⟨css, EP.mapOut (Prod.mk true) (fun cs x hx => hx) hE, by rw [List.length_map] at hown; exact hown, hrow, by rw [List.length_map] at hsm; exact hsm⟩
theorem Sep.mixAt {i k j : Nat} (h : Sep G W As w) (hi : As[i]? = some (RowE (mix (α := α) G W) T v (xO k l))) (hk : k ≤ j) (hj : j < l.length) : ∃ cs, CellsAt w (sb v) (so v + j * Rep.k α) cs ∧ Rep.rd W G cs l[j] := by
  obtain ⟨cs, f, h1, h2⟩ := h.rowAt hi (j := j) (by rw [xw]; exact hj)
  have e : (xO k l)[j]'(by rw [xw]; exact hj) = (false, l[j]) := by
    have := WM hk hj
    rw [List.getElem?_eq_getElem (by rw [xw]; exact hj)] at this
    exact Option.some.inj this
  rw [e] at h2
  exact ⟨cs, h1, h2⟩
end
section
variable {α : Type} [Rep α] {P : Program} {d : Option Tmp} {ty : TypeId} {pos : String} {af : Array Edge} {gd : Option (Nat × Bool)} {σ : Env} {w : World} {K : Value → World → Prop} {G : Nat → Prop} {W : World} {As : List HP} {N : HP} {T : TypeId} {v : Value} {l : List α}
theorem Yq {t : TypeId} {j o : Nat} {x y : Operand} {u : Value} {us : List Value} (h : Sep G W (RowE (mix (α := α) G W) T v (xO j l) :: N :: As) w) (hS : ∀ w, (sizeOf t).run P w = .ok us.length w) (hj : j < l.length)
    (hx : ev σ x = .pointer (some ⟨sb v, so v + j * Rep.k α + o, none⟩)) (hy : ev σ y = u) (hu : u.cells.toList = us) (ho : o + us.length ≤ Rep.k α) (h1 : ∀ u ∈ us, u.oneCell' = true)
    (hq : ∀ w f cs0, Rep.rd W G cs0 l[j] → N.p w f → ((own (α := α)).el (cs0.take o ++ us ++ cs0.drop (o + us.length)) l[j]).p w f)
    (hK : ∀ w', Sep G W (RowE (mix (α := α) G W) T v (xO (j + 1) l) :: As) w' → K undef w') : opV P ⟨d, .store t x y, ty, pos, af, gd⟩ σ w K := by
  have e : (xO j l)[j]'(by rw [xw]; exact hj) = (false, l[j]) := by
    have := WM (Nat.le_refl j) hj
    rw [List.getElem?_eq_getElem (by rw [xw]; exact hj)] at this
    exact Option.some.inj this
  refine yE (α := Bool × α) (j := j) (o := o) (u := u) (us := us) (x1 := (true, l[j])) h hS (by rw [xw]; exact hj) hx hy hu ho h1 (fun w f cs0 hel hN => ?_) (fun w' h' => hK w' (by rw [Uk hj] at h'; exact h'))
  rw [e] at hel
  exact hq w f cs0 hel hN
end
end Go.Proofs.YtlblilbmpdejgaaDoor
