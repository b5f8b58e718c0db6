import Derived.Test.YtlblilbmpdejgaaDoorU3
set_option linter.unusedSimpArgs false
set_option linter.unusedVariables false
set_option linter.unusedSectionVars false
set_option linter.deprecated false
/- Steps of the proofs of this seat: part C4. -/
set_option maxRecDepth 8000
namespace Go.Proofs.YtlblilbmpdejgaaDoor
open Go.Proofs Go.RowKit

theorem Uh {G : Nat → Prop} {W w : World} {Rs : List HP} {vl : Value} {l : List Int} {i : Nat} {b : Nat} {x : Int} (hS0 : Sep G W ((RowE (α := Int) own 3 vl l) :: (Blk b #[.int .i64 x] 3) :: Rs) w) (hi : i ≤ l.length) (hx : InR x) (hbig : (l.length + 1) * 8 ≤ 140737488355328) : Ret Tryd.prog 95 [vl, .int .i64 ((i : Nat) : Int), .slice (some ⟨b, 0, none⟩) 1 1] w (fun r w' => ∃ (v : Value), r = (v : Value) ∧ Sep G W ((RowE (α := Int) own 3 v (l.take i ++ x :: l.drop i)) :: Rs) w') := by
  exact Ret.mono (UU Qi rfl hS0 hi hx hbig) (fun r w1 h => ⟨r, rfl, h⟩)

theorem Up {G : Nat → Prop} {W w : World} {Rs : List HP} {vl : Value} {l : List Int} {i : Nat}  (hS0 : Sep G W ((RowE (α := Int) own 3 vl l) :: Rs) w) (hi : i < l.length) : Ret Tryd.prog 96 [vl, .int .i64 ((i : Nat) : Int), .int .i64 ((i + 1 : Nat) : Int)] w (fun r w' => ∃ (v : Value), r = (v : Value) ∧ Sep G W ((RowE (α := Int) own 3 v (l.take i ++ l.drop (i + 1))) :: Rs) w') := by
  exact Ret.mono (UG Qz hS0 hi) (fun r w1 h => ⟨r, rfl, h⟩)

theorem QA {l : List Int} {i : Nat} {x : Int} (ha : Asc l) (hi : i ≤ l.length) (hlo : ∀ q, q < i → l.getD q 0 < x) (hhi : ∀ q, i ≤ q → q < l.length → x ≤ l.getD q 0) (hn : ¬ x ∈ l) : l.take i ++ x :: l.drop i = Yy l x := by
  have h1 : ∀ y ∈ l.take i, y < x := by
    intro y hy
    obtain ⟨q, hq, rfl⟩ := List.getElem_of_mem hy
    rw [List.length_take] at hq
    have := hlo q (by omega)
    rw [zk _ (by omega)] at this
    rw [List.getElem_take]; exact this
  have h2 : ∀ y ∈ l.drop i, x < y := by
    intro y hy
    obtain ⟨q, hq, rfl⟩ := List.getElem_of_mem hy
    rw [List.length_drop] at hq
    have := hhi (i + q) (by omega) (by omega)
    rw [zk _ (by omega)] at this
    rw [List.getElem_drop]
    have hne : l[i + q] ≠ x := fun e => hn (e ▸ List.getElem_mem _)
    omega
  unfold Yy
  rw [if_neg hn]
  have e1 : l.filter (fun y => decide (y < x)) = l.take i := by
    conv => lhs; rw [← List.take_append_drop i l]
    rw [List.filter_append, List.filter_eq_self.2 (fun y hy => by simpa using h1 y hy), List.filter_eq_nil_iff.2 (fun y hy => by have := h2 y hy; simp; omega), List.append_nil]
  have e2 : l.filter (fun y => decide (x < y)) = l.drop i := by
    conv => lhs; rw [← List.take_append_drop i l]
    rw [List.filter_append, List.filter_eq_nil_iff.2 (fun y hy => by have := h1 y hy; simp; omega), List.filter_eq_self.2 (fun y hy => by simpa using h2 y hy), List.nil_append]
  rw [e1, e2]
theorem Ux {l : List Int} {i : Nat} {x : Int} (ha : Asc l) (hi : i ≤ l.length) (hlo : ∀ q, q < i → l.getD q 0 < x) (hhi : ∀ q, i ≤ q → q < l.length → x ≤ l.getD q 0) (hn : x ∈ l) : i < l.length ∧ l.take i ++ l.drop (i + 1) = XS l x := by
  have hm := Xd ha hi hlo hhi
  rw [decide_eq_true hn] at hm
  have hm2 := hm.symm
  simp only [Bool.and_eq_true, decide_eq_true_eq] at hm2
  obtain ⟨hil, hx⟩ := hm2
  refine ⟨hil, ?_⟩
  have h1 : ∀ y ∈ l.take i, y ≠ x := by
    intro y hy
    obtain ⟨q, hq, rfl⟩ := List.getElem_of_mem hy
    rw [List.length_take] at hq
    have := hlo q (by omega)
    rw [zk _ (by omega)] at this
    rw [List.getElem_take]; omega
  have h2 : ∀ y ∈ l.drop (i + 1), y ≠ x := by
    intro y hy
    obtain ⟨q, hq, rfl⟩ := List.getElem_of_mem hy
    rw [List.length_drop] at hq
    have := Xk ha (show i < i + 1 + q by omega) (by omega)
    rw [hx, zk _ (by omega)] at this
    rw [List.getElem_drop]; omega
  unfold XS
  conv => rhs; rw [← List.take_append_drop i l]
  rw [List.filter_append, List.filter_eq_self.2 (fun y hy => by simpa using h1 y hy), List.drop_eq_getElem_cons hil, List.filter_cons, if_neg (by rw [zk _ hil] at hx; simp [hx]), List.filter_eq_self.2 (fun y hy => by simpa using h2 y hy)]
theorem Wy (n : Int) : InR (IntKind.i64.wrap n) := Wa n
theorem Zz {G : Nat → Prop} {W w : World} {Rs : List HP} {fl : Fld} {dm vc : Value} {no arg : Int} {sh : List CelS} (hS0 : Sep G W ((RowE (α := CelS) own 42 vc sh) :: Rs) w) (hno : 0 ≤ no ∧ no < sh.length) : Ret Tryd.prog 79 [.agg #[.int .i64 (fl.kind), .int .i64 (fl.policy), .bool (fl.floor), dm, vc, .int .i64 (no), .int .i64 (arg)]] w (fun r w' => r = (.pointer (some ⟨sb vc, so vc + no.toNat * 2, none⟩) : Value) ∧ Sep G W ((RowE (α := CelS) own 42 vc sh) :: Rs) w') := by
 refine zr (args := [.agg #[.int .i64 (fl.kind), .int .i64 (fl.policy), .bool (fl.floor), dm, vc, .int .i64 (no), .int .i64 (arg)]]) Tryd.func79 rfl rfl ?_
 have hr1 := hS0.row (i := 0) rfl
 have hr1s : _ * 32 ≤ _ := hr1.2
 refine zd ?_
 refine za (by kernel_rfl) (fun _ => ?_)
 refine st (yb (v := .agg #[.int .i64 (fl.kind), .int .i64 (fl.policy), .bool (fl.floor), dm, vc, .int .i64 (no), .int .i64 (arg)]) rfl ?_)
 intro w4 b3 hn2
 have hS5 := hS0.new hn2
 refine st (ze (v := .pointer none) rfl ?_)
 refine zf ?_
 refine zd ?_
 refine za (by kernel_rfl) (fun _ => ?_)
 refine st (Xi rfl ?_)
 refine st (zg (v := vc) Tryd.isAgg26 rfl (zh (hS5.blk (i := 0) rfl) rfl) ?_)
 refine st (Vf rfl ?_)
 refine st (zg (v := .int .i64 (no)) Tryd.isAgg3 rfl (zh (hS5.blk (i := 0) rfl) rfl) ?_)
 have hi6 : no.toNat < sh.length := (by first | omega | (simp only [lens]; omega))
 refine st (zG (k := 2) (i := no) Tryd.underlying26 Tryd.sizeOf42 rfl hr1.1 rfl ⟨by omega, by omega⟩ ?_)
 refine st (ze (v := .pointer (some ⟨sb vc, so vc + no.toNat * 2, none⟩)) rfl ?_)
 refine zf ?_
 refine zu ?_
 refine ya Tryd.results79 (show _ = (.pointer (some ⟨sb vc, so vc + no.toNat * 2, none⟩) : Value) from rfl) ?_
 have hS7 : Sep G W ((RowE (α := CelS) own 42 vc sh) :: Rs) w4 := hS5.sel 2 [1] (Nat.le_add_left _ _) rfl rfl
 refine ⟨rfl, hS7⟩

set_option maxHeartbeats 4000000 in
theorem UV {G : Nat → Prop} {W w : World} {Rs : List HP} {fl : Fld} {dm vc : Value} {no arg : Int} {l : List Cel} (hS0 : Sep G W ((CelW vc 42 3 l) :: Rs) w) (hno : 0 ≤ no ∧ no < l.length) (hno0 : InR no) (harg : InR arg) : Ret Tryd.prog 81 [.agg #[.int .i64 (fl.kind), .int .i64 (fl.policy), .bool (fl.floor), dm, vc, .int .i64 (no), .int .i64 (arg)]] w (fun r w' => r = (.tuple #[] : Value) ∧ Sep G W ((CelW vc 42 3 (l.set no.toNat (yD fl (yc l no) 2 arg))) :: Rs) w') := by
 refine zr (args := [.agg #[.int .i64 (fl.kind), .int .i64 (fl.policy), .bool (fl.floor), dm, vc, .int .i64 (no), .int .i64 (arg)]]) Tryd.func81 rfl rfl ?_
 obtain ⟨sh1, hsh2, hS3⟩ := CelW.open hS0
 have hsh2l := hsh2.1
 have hr4 := hS3.row (i := 0) rfl
 have hr4s : _ * 32 ≤ _ := hr4.2
 have hS3t : Sep G W ((RowE (α := CelS) own 42 vc sh1) :: (Star (SetRows 3 sh1 l)) :: Rs) w := hS3
 refine zd ?_
 refine za (by kernel_rfl) (fun _ => ?_)
 refine st (yb (v := .agg #[.int .i64 (fl.kind), .int .i64 (fl.policy), .bool (fl.floor), dm, vc, .int .i64 (no), .int .i64 (arg)]) rfl ?_)
 intro w7 b6 hn5
 have hS8 := hS3t.new hn5
 refine zf ?_
 refine zP ((fun TT pp0 pp1 => WF [fun vals wq => Sep G W (pp0 :: pp1 :: TT) wq, fun vals wq => (vals 1 = (.pointer (some ⟨sb vc, so vc + no.toNat * 2, none⟩) : Value)) ∧ Sep G W (pp1 :: pp0 :: TT) wq, fun vals wq => (vals 1 = (.pointer (some ⟨sb vc, so vc + no.toNat * 2, none⟩) : Value)) ∧ Sep G W ((RowE (α := CelS) own 42 vc (sh1.set no.toNat (⟨arg, (sh1.getD no.toNat default).v⟩ : CelS))) :: pp0 :: TT) wq]) ((Star (SetRows 3 sh1 l)) :: Rs) (Blk b6 #[.int .i64 (fl.kind), .int .i64 (fl.policy), .bool (fl.floor), dm, vc, .int .i64 (no), .int .i64 (arg)] 101) (RowE (α := CelS) own 42 vc sh1)) (AF [Vl 0 (.agg #[.int .i64 (fl.kind), .int .i64 (fl.policy), .bool (fl.floor), dm, vc, .int .i64 (no), .int .i64 (arg)]), fun _ => True, Vl 2 (.pointer (some ⟨b6, 6, none⟩)), Vl 3 (.int .i64 (arg)), Vl 4 (.pointer (some ⟨sb vc, so vc + no.toNat * 2, none⟩)), Vl 5 (.pointer (some ⟨sb vc, so vc + no.toNat * 2, none⟩)), fun _ => True]) [[], [0], [], [2], [0, 1, 2, 3], [0, 1, 2, 3, 4], [0, 1, 2, 3, 4, 5]] [1, 6] [(0, 0), (0, 0), (0, 1), (0, 1), (1, 1), (1, 1), (1, 1)] (by kernel_rfl) (by kernel_rfl) (by kernel_rfl) rfl (by kernel_rfl) (by kernel_rfl) (fun _ h1 h2 h3 h4 _ => hS8.same h1 h2 h3 h4) ?_ (yg ⟨dA, dT, dA, dA, dA, dA, dT, trivial⟩) ⟨?_, ?_, ?_, ?_, ?_, ?_, ?_, trivial⟩ ?_
 ·intro k vals vals' w hv h
  have e : ∀ j ∈ ([1, 6] : List Nat), vals' j = vals j := hv
  match k, h with
  | 0, h => exact h
  | 1, h => exact (by simpa only [WF, List.getElem?_cons_zero, List.getElem?_cons_succ, e 1 (by decide)] using h)
  | 2, h => exact (by simpa only [WF, List.getElem?_cons_zero, List.getElem?_cons_succ, e 1 (by decide)] using h)
  | _ + 3, _ => trivial
 ·intro k70 vals w71 h74 h75 hW73 hA72
  obtain rfl : k70 = 0 := Nat.le_antisymm h75 h74
  have hS76 : Sep _ _ _ _ := hW73
  refine obl rfl ?_
  exact zl (k := 7) Tryd.isAgg101 Tryd.sizeOf101 rfl rfl (CellsAt.all (hS76.blk (i := 0) rfl)) (fun vals' hv _ => ⟨rfl, hv⟩)
 ·intro k16 vals w17 h20 h21 hW19 hA18
  obtain rfl : k16 = 0 := Nat.le_antisymm h21 h20
  have hS22 : Sep _ _ _ _ := hW19
  have e23 := hA18 0 (by decide)
  refine obl rfl ?_
  have hS24 := hS22.mv1
  refine (zv (f := 79) (vals := [.agg #[.int .i64 (fl.kind), .int .i64 (fl.policy), .bool (fl.floor), dm, vc, .int .i64 (no), .int .i64 (arg)]]) (cap := []) rfl (xj ⟨e23, trivial⟩) Tryd.call79 (Zz  hS24 (by first | omega | (simp only [lens]; omega))) ?_)
  rintro _ w25 ⟨rfl, hS26⟩
  have hr27 := hS26.row (i := 0) rfl
  have hr27s : _ * 32 ≤ _ := hr27.2
  intro vals' hv hv'
  refine ⟨?_, trivial⟩
  show (vals' 1 = (.pointer (some ⟨sb vc, so vc + no.toNat * 2, none⟩) : Value)) ∧ Sep G W ((RowE (α := CelS) own 42 vc sh1) :: (Blk b6 #[.int .i64 (fl.kind), .int .i64 (fl.policy), .bool (fl.floor), dm, vc, .int .i64 (no), .int .i64 (arg)] 101) :: (Star (SetRows 3 sh1 l)) :: Rs) w25
  exact ⟨hv, hS26⟩
 ·intro k77 vals w78 h81 h82 hW80 hA79
  refine obl rfl ?_
  exact yT rfl (fun vals' hv _ => ⟨rfl, hv⟩)
 ·intro k83 vals w84 h87 h88 hW86 hA85
  have hkk : k83 = 0 ∨ k83 = 1 := by have h1 : 0 ≤ k83 := h87; have h2 : k83 ≤ 1 := h88; omega
  rcases hkk with rfl | rfl
  ·skip
   have hS89 : Sep _ _ _ _ := hW86
   have e90 := hA85 2 (by decide)
   refine obl rfl ?_
   exact zg (v := .int .i64 (arg)) Tryd.isAgg3 e90 (zh (hS89.blk (i := 0) rfl) rfl) (fun vals' hv _ => ⟨rfl, hv⟩)
  ·skip
   obtain ⟨he28, hS91⟩ := hW86
   have e92 := hA85 2 (by decide)
   refine obl rfl ?_
   exact zg (v := .int .i64 (arg)) Tryd.isAgg3 e92 (zh (hS91.blk (i := 1) rfl) rfl) (fun vals' hv _ => ⟨rfl, hv⟩)
 ·intro k93 vals w94 h97 h98 hW96 hA95
  obtain rfl : k93 = 1 := Nat.le_antisymm h98 h97
  obtain ⟨he28, hS99⟩ := hW96
  refine obl rfl ?_
  exact zL (b := sb vc) (o := so vc + no.toNat * 2) he28 (fun vals' hv _ => ⟨rfl, hv⟩)
 ·intro k100 vals w101 h104 h105 hW103 hA102
  have e106 := hA102 4 (by decide)
  refine obl rfl ?_
  exact xM e106 (fun vals' hv _ => ⟨rfl, hv⟩)
 ·intro k57 vals w58 h61 h62 hW60 hA59
  obtain rfl : k57 = 1 := Nat.le_antisymm h62 h61
  obtain ⟨he28, hS63⟩ := hW60
  have e64 := hA59 3 (by decide)
  have e65 := hA59 5 (by decide)
  refine obl rfl ?_
  have hS67 : Sep G W ((RowE (α := CelS) own 42 vc sh1) :: Emp :: (Blk b6 #[.int .i64 (fl.kind), .int .i64 (fl.policy), .bool (fl.floor), dm, vc, .int .i64 (no), .int .i64 (arg)] 101) :: (Star (SetRows 3 sh1 l)) :: Rs) w58 := hS63.emp1
  refine (yY (α := CelS) (j := no.toNat) (o := 0) (u := .int .i64 (arg)) (us := [.int .i64 (arg)]) (x1 := (⟨arg, (sh1.getD no.toNat default).v⟩ : CelS)) hS67 Tryd.sizeOf3 (by first | omega | (simp only [lens]; omega)) e65 e64 rfl (Nat.le_of_ble_eq_true rfl) (yj ⟨rfl, trivial⟩) (fun _ _ _ hel _ => (by rw [← zk default (by omega)] at hel; obtain ⟨rfl, hok⟩ := hel; exact ⟨rfl, ⟨(show InR (arg) from (by omega)), hok.one⟩⟩)) ?_)
  intro w66 hS68
  have hr69 := hS68.row (i := 0) rfl
  have hr69s : _ * 32 ≤ _ := hr69.2
  intro vals' hv hv'
  refine ⟨?_, trivial⟩
  show (vals' 1 = (.pointer (some ⟨sb vc, so vc + no.toNat * 2, none⟩) : Value)) ∧ Sep G W ((RowE (α := CelS) own 42 vc (sh1.set no.toNat (⟨arg, (sh1.getD no.toNat default).v⟩ : CelS))) :: (Blk b6 #[.int .i64 (fl.kind), .int .i64 (fl.policy), .bool (fl.floor), dm, vc, .int .i64 (no), .int .i64 (arg)] 101) :: (Star (SetRows 3 sh1 l)) :: Rs) w66
  exact ⟨(by rw [hv' 1 (by decide)]; exact he28), hS68⟩
 intro vals w107 hW108 hA109
 obtain ⟨he28, hS110⟩ := hW108
 refine yh (kv := [(0, .agg #[.int .i64 (fl.kind), .int .i64 (fl.policy), .bool (fl.floor), dm, vc, .int .i64 (no), .int .i64 (arg)]), (1, .pointer (some ⟨b6, 0, none⟩))]) ⟨rfl, rfl, trivial⟩ (fun ρw107 => ?_)
 refine zf ?_
 refine Wl Tryd.results81 ?_
 have hS111 : Sep G W ((RowE (α := CelS) own 42 vc (sh1.set no.toNat (⟨arg, (sh1.getD no.toNat default).v⟩ : CelS))) :: (Star (SetRows 3 sh1 l)) :: (Blk b6 #[.int .i64 (fl.kind), .int .i64 (fl.policy), .bool (fl.floor), dm, vc, .int .i64 (no), .int .i64 (arg)] 101) :: Rs) w107 := hS110.sel 3 [0, 2, 1] (Nat.le_add_left _ _) rfl rfl
 have hS112 : Sep G W ((CelW vc 42 3 (l.set no.toNat ⟨arg, (l.getD no.toNat default).set⟩)) :: (Blk b6 #[.int .i64 (fl.kind), .int .i64 (fl.policy), .bool (fl.floor), dm, vc, .int .i64 (no), .int .i64 (arg)] 101) :: Rs) w107 := CelW.closeN (i := no.toNat) (m := arg) hsh2.1 hsh2.2 (by omega) hS111
 have hS113 : Sep G W ((CelW vc 42 3 (l.set no.toNat ⟨arg, (l.getD no.toNat default).set⟩)) :: Rs) w107 := hS112.sel 2 [0] (Nat.le_add_left _ _) rfl rfl
 refine ⟨rfl, hS113⟩

set_option maxHeartbeats 4000000 in
theorem UX {G : Nat → Prop} {W w : World} {Rs : List HP} {fl : Fld} {dm vc : Value} {no arg : Int} {l : List Cel} (hS0 : Sep G W ((CelW vc 42 3 l) :: Rs) w) (hno : 0 ≤ no ∧ no < l.length) (hno0 : InR no) (harg : InR arg) : Ret Tryd.prog 78 [.agg #[.int .i64 (fl.kind), .int .i64 (fl.policy), .bool (fl.floor), dm, vc, .int .i64 (no), .int .i64 (arg)]] w (fun r w' => r = (.tuple #[] : Value) ∧ Sep G W ((CelW vc 42 3 (l.set no.toNat (yD fl (yc l no) 1 arg))) :: Rs) w') := by
 refine zr (args := [.agg #[.int .i64 (fl.kind), .int .i64 (fl.policy), .bool (fl.floor), dm, vc, .int .i64 (no), .int .i64 (arg)]]) Tryd.func78 rfl rfl ?_
 obtain ⟨sh1, hsh2, hS3⟩ := CelW.open hS0
 have hsh2l := hsh2.1
 have hr4 := hS3.row (i := 0) rfl
 have hr4s : _ * 32 ≤ _ := hr4.2
 have hS3t : Sep G W ((RowE (α := CelS) own 42 vc sh1) :: (Star (SetRows 3 sh1 l)) :: Rs) w := hS3
 refine zd ?_
 refine za (by kernel_rfl) (fun _ => ?_)
 refine st (yb (v := .agg #[.int .i64 (fl.kind), .int .i64 (fl.policy), .bool (fl.floor), dm, vc, .int .i64 (no), .int .i64 (arg)]) rfl ?_)
 intro w7 b6 hn5
 have hS8 := hS3t.new hn5
 refine zf ?_
 refine zP ((fun TT pp0 pp1 => WF [fun vals wq => Sep G W (pp0 :: pp1 :: TT) wq, fun vals wq => (vals 1 = (.pointer (some ⟨sb vc, so vc + no.toNat * 2, none⟩) : Value)) ∧ Sep G W (pp1 :: pp0 :: TT) wq, fun vals wq => (vals 1 = (.pointer (some ⟨sb vc, so vc + no.toNat * 2, none⟩) : Value)) ∧ Sep G W ((RowE (α := CelS) own 42 vc (sh1.set no.toNat (⟨IntKind.i64.wrap (((sh1.getD no.toNat default).n) + arg), (sh1.getD no.toNat default).v⟩ : CelS))) :: pp0 :: TT) wq]) ((Star (SetRows 3 sh1 l)) :: Rs) (Blk b6 #[.int .i64 (fl.kind), .int .i64 (fl.policy), .bool (fl.floor), dm, vc, .int .i64 (no), .int .i64 (arg)] 101) (RowE (α := CelS) own 42 vc sh1)) (AF [Vl 0 (.agg #[.int .i64 (fl.kind), .int .i64 (fl.policy), .bool (fl.floor), dm, vc, .int .i64 (no), .int .i64 (arg)]), fun _ => True, Vl 2 (.pointer (some ⟨sb vc, so vc + no.toNat * 2, none⟩)), Vl 3 (.pointer (some ⟨sb vc, so vc + no.toNat * 2, none⟩)), Vl 4 (.int .i64 ((sh1.getD no.toNat default).n)), Vl 5 (.pointer (some ⟨b6, 6, none⟩)), Vl 6 (.int .i64 (arg)), Vl 7 (.int .i64 (IntKind.i64.wrap (((sh1.getD no.toNat default).n) + arg))), Vl 8 (.pointer (some ⟨sb vc, so vc + no.toNat * 2, none⟩)), Vl 9 (.pointer (some ⟨sb vc, so vc + no.toNat * 2, none⟩)), fun _ => True]) [[], [0], [0, 1], [0, 1, 2], [0, 1, 2, 3], [], [5], [0, 1, 2, 3, 4, 5, 6], [0, 1, 2, 3, 4, 5, 6, 7], [0, 1, 2, 3, 4, 5, 6, 7, 8], [0, 1, 2, 3, 4, 5, 6, 7, 8, 9]] [1, 10] [(0, 0), (0, 0), (1, 1), (1, 1), (1, 1), (0, 1), (0, 1), (1, 1), (1, 1), (1, 1), (1, 1)] (by kernel_rfl) (by kernel_rfl) (by kernel_rfl) rfl (by kernel_rfl) (by kernel_rfl) (fun _ h1 h2 h3 h4 _ => hS8.same h1 h2 h3 h4) ?_ (yg ⟨dA, dT, dA, dA, dA, dA, dA, dA, dA, dA, dT, trivial⟩) ⟨?_, ?_, ?_, ?_, ?_, ?_, ?_, ?_, ?_, ?_, ?_, trivial⟩ ?_
 ·intro k vals vals' w hv h
  have e : ∀ j ∈ ([1, 10] : List Nat), vals' j = vals j := hv
  match k, h with
  | 0, h => exact h
  | 1, h => exact (by simpa only [WF, List.getElem?_cons_zero, List.getElem?_cons_succ, e 1 (by decide)] using h)
  | 2, h => exact (by simpa only [WF, List.getElem?_cons_zero, List.getElem?_cons_succ, e 1 (by decide)] using h)
  | _ + 3, _ => trivial
 ·intro k103 vals w104 h107 h108 hW106 hA105
  obtain rfl : k103 = 0 := Nat.le_antisymm h108 h107
  have hS109 : Sep _ _ _ _ := hW106
  refine obl rfl ?_
  exact zl (k := 7) Tryd.isAgg101 Tryd.sizeOf101 rfl rfl (CellsAt.all (hS109.blk (i := 0) rfl)) (fun vals' hv _ => ⟨rfl, hv⟩)
 ·intro k16 vals w17 h20 h21 hW19 hA18
  obtain rfl : k16 = 0 := Nat.le_antisymm h21 h20
  have hS22 : Sep _ _ _ _ := hW19
  have e23 := hA18 0 (by decide)
  refine obl rfl ?_
  have hS24 := hS22.mv1
  refine (zv (f := 79) (vals := [.agg #[.int .i64 (fl.kind), .int .i64 (fl.policy), .bool (fl.floor), dm, vc, .int .i64 (no), .int .i64 (arg)]]) (cap := []) rfl (xj ⟨e23, trivial⟩) Tryd.call79 (Zz  hS24 (by first | omega | (simp only [lens]; omega))) ?_)
  rintro _ w25 ⟨rfl, hS26⟩
  have hr27 := hS26.row (i := 0) rfl
  have hr27s : _ * 32 ≤ _ := hr27.2
  intro vals' hv hv'
  refine ⟨?_, trivial⟩
  show (vals' 1 = (.pointer (some ⟨sb vc, so vc + no.toNat * 2, none⟩) : Value)) ∧ Sep G W ((RowE (α := CelS) own 42 vc sh1) :: (Blk b6 #[.int .i64 (fl.kind), .int .i64 (fl.policy), .bool (fl.floor), dm, vc, .int .i64 (no), .int .i64 (arg)] 101) :: (Star (SetRows 3 sh1 l)) :: Rs) w25
  exact ⟨hv, hS26⟩
 ·intro k110 vals w111 h114 h115 hW113 hA112
  obtain rfl : k110 = 1 := Nat.le_antisymm h115 h114
  obtain ⟨he28, hS116⟩ := hW113
  refine obl rfl ?_
  exact zL (b := sb vc) (o := so vc + no.toNat * 2) he28 (fun vals' hv _ => ⟨rfl, hv⟩)
 ·intro k117 vals w118 h121 h122 hW120 hA119
  have e123 := hA119 2 (by decide)
  refine obl rfl ?_
  exact xM e123 (fun vals' hv _ => ⟨rfl, hv⟩)
 ·intro k124 vals w125 h128 h129 hW127 hA126
  obtain rfl : k124 = 1 := Nat.le_antisymm h129 h128
  obtain ⟨he28, hS130⟩ := hW127
  have e131 := hA126 3 (by decide)
  refine obl rfl ?_
  have hi133 : no.toNat < sh1.length := (by first | omega | (simp only [lens]; omega))
  obtain ⟨_, _, hce132, rfl, hoke132⟩ := hS130.rowAt (i := 0) (j := no.toNat) rfl hi133
  rw [← zk default hi133] at hce132 hoke132
  exact zg (v := .int .i64 ((sh1.getD no.toNat default).n)) Tryd.isAgg3 e131 (hce132.get (j := 0) rfl) (fun vals' hv _ => ⟨rfl, hv⟩)
 ·intro k134 vals w135 h138 h139 hW137 hA136
  refine obl rfl ?_
  exact yT rfl (fun vals' hv _ => ⟨rfl, hv⟩)
 ·intro k140 vals w141 h144 h145 hW143 hA142
  have hkk : k140 = 0 ∨ k140 = 1 := by have h1 : 0 ≤ k140 := h144; have h2 : k140 ≤ 1 := h145; omega
  rcases hkk with rfl | rfl
  ·skip
   have hS146 : Sep _ _ _ _ := hW143
   have e147 := hA142 5 (by decide)
   refine obl rfl ?_
   exact zg (v := .int .i64 (arg)) Tryd.isAgg3 e147 (zh (hS146.blk (i := 0) rfl) rfl) (fun vals' hv _ => ⟨rfl, hv⟩)
  ·skip
   obtain ⟨he28, hS148⟩ := hW143
   have e149 := hA142 5 (by decide)
   refine obl rfl ?_
   exact zg (v := .int .i64 (arg)) Tryd.isAgg3 e149 (zh (hS148.blk (i := 1) rfl) rfl) (fun vals' hv _ => ⟨rfl, hv⟩)
 ·intro k150 vals w151 h154 h155 hW153 hA152
  obtain rfl : k150 = 1 := Nat.le_antisymm h155 h154
  obtain ⟨he28, hS156⟩ := hW153
  have e157 := hA152 4 (by decide)
  have e158 := hA152 6 (by decide)
  refine obl rfl ?_
  exact ye (r := IntKind.i64.wrap (((sh1.getD no.toNat default).n) + arg)) (k := .i64) (a := (sh1.getD no.toNat default).n) (b := arg) e157 e158 rfl (fun vals' hv _ => ⟨rfl, hv⟩)
 ·intro k159 vals w160 h163 h164 hW162 hA161
  obtain rfl : k159 = 1 := Nat.le_antisymm h164 h163
  obtain ⟨he28, hS165⟩ := hW162
  refine obl rfl ?_
  exact zL (b := sb vc) (o := so vc + no.toNat * 2) he28 (fun vals' hv _ => ⟨rfl, hv⟩)
 ·intro k166 vals w167 h170 h171 hW169 hA168
  have e172 := hA168 8 (by decide)
  refine obl rfl ?_
  exact xM e172 (fun vals' hv _ => ⟨rfl, hv⟩)
 ·intro k90 vals w91 h94 h95 hW93 hA92
  obtain rfl : k90 = 1 := Nat.le_antisymm h95 h94
  obtain ⟨he28, hS96⟩ := hW93
  have e97 := hA92 7 (by decide)
  have e98 := hA92 9 (by decide)
  refine obl rfl ?_
  have hS100 : Sep G W ((RowE (α := CelS) own 42 vc sh1) :: Emp :: (Blk b6 #[.int .i64 (fl.kind), .int .i64 (fl.policy), .bool (fl.floor), dm, vc, .int .i64 (no), .int .i64 (arg)] 101) :: (Star (SetRows 3 sh1 l)) :: Rs) w91 := hS96.emp1
  refine (yY (α := CelS) (j := no.toNat) (o := 0) (u := .int .i64 (IntKind.i64.wrap (((sh1.getD no.toNat default).n) + arg))) (us := [.int .i64 (IntKind.i64.wrap (((sh1.getD no.toNat default).n) + arg))]) (x1 := (⟨IntKind.i64.wrap (((sh1.getD no.toNat default).n) + arg), (sh1.getD no.toNat default).v⟩ : CelS)) hS100 Tryd.sizeOf3 (by first | omega | (simp only [lens]; omega)) e98 e97 rfl (Nat.le_of_ble_eq_true rfl) (yj ⟨rfl, trivial⟩) (fun _ _ _ hel _ => (by rw [← zk default (by omega)] at hel; obtain ⟨rfl, hok⟩ := hel; exact ⟨rfl, ⟨(show InR (IntKind.i64.wrap (((sh1.getD no.toNat default).n) + arg)) from (Wy _)), hok.one⟩⟩)) ?_)
  intro w99 hS101
  have hr102 := hS101.row (i := 0) rfl
  have hr102s : _ * 32 ≤ _ := hr102.2
  intro vals' hv hv'
  refine ⟨?_, trivial⟩
  show (vals' 1 = (.pointer (some ⟨sb vc, so vc + no.toNat * 2, none⟩) : Value)) ∧ Sep G W ((RowE (α := CelS) own 42 vc (sh1.set no.toNat (⟨IntKind.i64.wrap (((sh1.getD no.toNat default).n) + arg), (sh1.getD no.toNat default).v⟩ : CelS))) :: (Blk b6 #[.int .i64 (fl.kind), .int .i64 (fl.policy), .bool (fl.floor), dm, vc, .int .i64 (no), .int .i64 (arg)] 101) :: (Star (SetRows 3 sh1 l)) :: Rs) w99
  exact ⟨(by rw [hv' 1 (by decide)]; exact he28), hS101⟩
 intro vals w173 hW174 hA175
 obtain ⟨he28, hS176⟩ := hW174
 refine yh (kv := [(0, .agg #[.int .i64 (fl.kind), .int .i64 (fl.policy), .bool (fl.floor), dm, vc, .int .i64 (no), .int .i64 (arg)]), (1, .pointer (some ⟨b6, 0, none⟩))]) ⟨rfl, rfl, trivial⟩ (fun ρw173 => ?_)
 refine zf ?_
 refine Wl Tryd.results78 ?_
 have hS177 : Sep G W ((RowE (α := CelS) own 42 vc (sh1.set no.toNat (⟨IntKind.i64.wrap (((sh1.getD no.toNat default).n) + arg), (sh1.getD no.toNat default).v⟩ : CelS))) :: (Star (SetRows 3 sh1 l)) :: (Blk b6 #[.int .i64 (fl.kind), .int .i64 (fl.policy), .bool (fl.floor), dm, vc, .int .i64 (no), .int .i64 (arg)] 101) :: Rs) w173 := hS176.sel 3 [0, 2, 1] (Nat.le_add_left _ _) rfl rfl
 have hS178 : Sep G W ((CelW vc 42 3 (l.set no.toNat ⟨IntKind.i64.wrap (((sh1.getD no.toNat default).n) + arg), (l.getD no.toNat default).set⟩)) :: (Blk b6 #[.int .i64 (fl.kind), .int .i64 (fl.policy), .bool (fl.floor), dm, vc, .int .i64 (no), .int .i64 (arg)] 101) :: Rs) w173 := CelW.closeN (i := no.toNat) (m := IntKind.i64.wrap (((sh1.getD no.toNat default).n) + arg)) hsh2.1 hsh2.2 (by omega) hS177
 rw [hsh2.2 _ (by omega)] at hS178
 have hS179 : Sep G W ((CelW vc 42 3 (l.set no.toNat ⟨IntKind.i64.wrap (((l.getD no.toNat default).n) + arg), (l.getD no.toNat default).set⟩)) :: Rs) w173 := hS178.sel 2 [0] (Nat.le_add_left _ _) rfl rfl
 refine ⟨rfl, hS179⟩

theorem WW {d : Option Tmp} {ty : TypeId} {pos : String} {af : Array Edge} {g : Option (Nat × Bool)} {σ : Env} {w : World} {K : Value → World → Prop} {x : Operand} {b o : Nat} (hx : ev σ x = .pointer (some ⟨b, o, none⟩)) (h : K (.pointer (some ⟨b, o + 1, none⟩)) w) : opV Tryd.prog ⟨d, .fieldAddr 115 x 1, ty, pos, af, g⟩ σ w K := zt Tryd.underlying115 rfl rfl (fun w => ⟨0, Tryd.sizeOf3 w⟩) hx h
set_option maxHeartbeats 4000000 in
theorem Ug {G : Nat → Prop} {W w : World} {Rs : List HP} {fl : Fld} {dm vc : Value} {no arg : Int} {l : List Cel} (hS0 : Sep G W ((CelW vc 42 3 l) :: Rs) w) (hno : 0 ≤ no ∧ no < l.length) (hno0 : InR no) (harg : InR arg) (hdm : RdS W G dm fl.moves) (hmv : 0 ≤ arg ∧ arg < fl.moves.length) : Ret Tryd.prog 86 [.agg #[.int .i64 (fl.kind), .int .i64 (fl.policy), .bool (fl.floor), dm, vc, .int .i64 (no), .int .i64 (arg)]] w (fun r w' => r = (.tuple #[] : Value) ∧ Sep G W ((CelW vc 42 3 (l.set no.toNat (yD fl (yc l no) 5 arg))) :: Rs) w') := by
 refine zr (args := [.agg #[.int .i64 (fl.kind), .int .i64 (fl.policy), .bool (fl.floor), dm, vc, .int .i64 (no), .int .i64 (arg)]]) Tryd.func86 rfl rfl ?_
 obtain ⟨sh1, hsh2, hS3⟩ := CelW.open hS0
 have hsh2l := hsh2.1
 have hr4 := hS3.row (i := 0) rfl
 have hr4s : _ * 32 ≤ _ := hr4.2
 have hS3t : Sep G W ((RowE (α := CelS) own 42 vc sh1) :: (Star (SetRows 3 sh1 l)) :: Rs) w := hS3
 refine zd ?_
 refine za (by kernel_rfl) (fun _ => ?_)
 refine st (yb (v := .agg #[.int .i64 (fl.kind), .int .i64 (fl.policy), .bool (fl.floor), dm, vc, .int .i64 (no), .int .i64 (arg)]) rfl ?_)
 intro w7 b6 hn5
 have hS8 := hS3t.new hn5
 refine zf ?_
 refine zP ((fun TT pp0 pp1 => WF [fun vals wq => Sep G W (pp0 :: pp1 :: TT) wq, fun vals wq => (vals 1 = (.pointer (some ⟨sb vc, so vc + no.toNat * 2, none⟩) : Value)) ∧ Sep G W (pp1 :: pp0 :: TT) wq, fun vals wq => (vals 1 = (.pointer (some ⟨sb vc, so vc + no.toNat * 2, none⟩) : Value)) ∧ Sep G W ((RowE (α := CelS) own 42 vc (sh1.set no.toNat (⟨(fl.moves.getD arg.toNat default).to, (sh1.getD no.toNat default).v⟩ : CelS))) :: pp0 :: TT) wq]) ((Star (SetRows 3 sh1 l)) :: Rs) (Blk b6 #[.int .i64 (fl.kind), .int .i64 (fl.policy), .bool (fl.floor), dm, vc, .int .i64 (no), .int .i64 (arg)] 101) (RowE (α := CelS) own 42 vc sh1)) (AF [Vl 0 (.agg #[.int .i64 (fl.kind), .int .i64 (fl.policy), .bool (fl.floor), dm, vc, .int .i64 (no), .int .i64 (arg)]), fun _ => True, Vl 2 (.pointer (some ⟨b6, 0, none⟩)), Vl 3 (.pointer (some ⟨b6, 3, none⟩)), Vl 4 (dm), Vl 5 (.pointer (some ⟨b6, 6, none⟩)), Vl 6 (.int .i64 (arg)), Vl 7 (.pointer (some ⟨sb dm, so dm + arg.toNat * 4, none⟩)), Vl 8 (.pointer (some ⟨sb dm, so dm + arg.toNat * 4 + 1, none⟩)), Vl 9 (.int .i64 ((fl.moves.getD arg.toNat default).to)), Vl 10 (.pointer (some ⟨sb vc, so vc + no.toNat * 2, none⟩)), Vl 11 (.pointer (some ⟨sb vc, so vc + no.toNat * 2, none⟩)), fun _ => True]) [[], [0], [], [2], [2, 3], [], [5], [2, 3, 4, 5, 6], [2, 3, 4, 5, 6, 7], [2, 3, 4, 5, 6, 7, 8], [0, 1, 2, 3, 4, 5, 6, 7, 8, 9], [0, 1, 2, 3, 4, 5, 6, 7, 8, 9, 10], [0, 1, 2, 3, 4, 5, 6, 7, 8, 9, 10, 11]] [1, 12] [(0, 0), (0, 0), (0, 1), (0, 1), (0, 1), (0, 1), (0, 1), (0, 1), (0, 1), (0, 1), (1, 1), (1, 1), (1, 1)] (by kernel_rfl) (by kernel_rfl) (by kernel_rfl) rfl (by kernel_rfl) (by kernel_rfl) (fun _ h1 h2 h3 h4 _ => hS8.same h1 h2 h3 h4) ?_ (yg ⟨dA, dT, dA, dA, dA, dA, dA, dA, dA, dA, dA, dA, dT, trivial⟩) ⟨?_, ?_, ?_, ?_, ?_, ?_, ?_, ?_, ?_, ?_, ?_, ?_, ?_, trivial⟩ ?_
 ·intro k vals vals' w hv h
  have e : ∀ j ∈ ([1, 12] : List Nat), vals' j = vals j := hv
  match k, h with
  | 0, h => exact h
  | 1, h => exact (by simpa only [WF, List.getElem?_cons_zero, List.getElem?_cons_succ, e 1 (by decide)] using h)
  | 2, h => exact (by simpa only [WF, List.getElem?_cons_zero, List.getElem?_cons_succ, e 1 (by decide)] using h)
  | _ + 3, _ => trivial
 ·intro k122 vals w123 h126 h127 hW125 hA124
  obtain rfl : k122 = 0 := Nat.le_antisymm h127 h126
  have hS128 : Sep _ _ _ _ := hW125
  refine obl rfl ?_
  exact zl (k := 7) Tryd.isAgg101 Tryd.sizeOf101 rfl rfl (CellsAt.all (hS128.blk (i := 0) rfl)) (fun vals' hv _ => ⟨rfl, hv⟩)
 ·intro k16 vals w17 h20 h21 hW19 hA18
  obtain rfl : k16 = 0 := Nat.le_antisymm h21 h20
  have hS22 : Sep _ _ _ _ := hW19
  have e23 := hA18 0 (by decide)
  refine obl rfl ?_
  have hS24 := hS22.mv1
  refine (zv (f := 79) (vals := [.agg #[.int .i64 (fl.kind), .int .i64 (fl.policy), .bool (fl.floor), dm, vc, .int .i64 (no), .int .i64 (arg)]]) (cap := []) rfl (xj ⟨e23, trivial⟩) Tryd.call79 (Zz  hS24 (by first | omega | (simp only [lens]; omega))) ?_)
  rintro _ w25 ⟨rfl, hS26⟩
  have hr27 := hS26.row (i := 0) rfl
  have hr27s : _ * 32 ≤ _ := hr27.2
  intro vals' hv hv'
  refine ⟨?_, trivial⟩
  show (vals' 1 = (.pointer (some ⟨sb vc, so vc + no.toNat * 2, none⟩) : Value)) ∧ Sep G W ((RowE (α := CelS) own 42 vc sh1) :: (Blk b6 #[.int .i64 (fl.kind), .int .i64 (fl.policy), .bool (fl.floor), dm, vc, .int .i64 (no), .int .i64 (arg)] 101) :: (Star (SetRows 3 sh1 l)) :: Rs) w25
  exact ⟨hv, hS26⟩
 ·intro k129 vals w130 h133 h134 hW132 hA131
  refine obl rfl ?_
  exact ZX rfl (fun vals' hv _ => ⟨rfl, hv⟩)
 ·intro k135 vals w136 h139 h140 hW138 hA137
  have e141 := hA137 2 (by decide)
  refine obl rfl ?_
  exact yE e141 (fun vals' hv _ => ⟨rfl, hv⟩)
 ·intro k142 vals w143 h146 h147 hW145 hA144
  have hkk : k142 = 0 ∨ k142 = 1 := by have h1 : 0 ≤ k142 := h146; have h2 : k142 ≤ 1 := h147; omega
  rcases hkk with rfl | rfl
  ·skip
   have hS148 : Sep _ _ _ _ := hW145
   have e149 := hA144 3 (by decide)
   refine obl rfl ?_
   exact zg (v := dm) Tryd.isAgg77 e149 (zh (hS148.blk (i := 0) rfl) rfl) (fun vals' hv _ => ⟨rfl, hv⟩)
  ·skip
   obtain ⟨he28, hS150⟩ := hW145
   have e151 := hA144 3 (by decide)
   refine obl rfl ?_
   exact zg (v := dm) Tryd.isAgg77 e151 (zh (hS150.blk (i := 1) rfl) rfl) (fun vals' hv _ => ⟨rfl, hv⟩)
 ·intro k152 vals w153 h156 h157 hW155 hA154
  refine obl rfl ?_
  exact yT rfl (fun vals' hv _ => ⟨rfl, hv⟩)
 ·intro k158 vals w159 h162 h163 hW161 hA160
  have hkk : k158 = 0 ∨ k158 = 1 := by have h1 : 0 ≤ k158 := h162; have h2 : k158 ≤ 1 := h163; omega
  rcases hkk with rfl | rfl
  ·skip
   have hS164 : Sep _ _ _ _ := hW161
   have e165 := hA160 5 (by decide)
   refine obl rfl ?_
   exact zg (v := .int .i64 (arg)) Tryd.isAgg3 e165 (zh (hS164.blk (i := 0) rfl) rfl) (fun vals' hv _ => ⟨rfl, hv⟩)
  ·skip
   obtain ⟨he28, hS166⟩ := hW161
   have e167 := hA160 5 (by decide)
   refine obl rfl ?_
   exact zg (v := .int .i64 (arg)) Tryd.isAgg3 e167 (zh (hS166.blk (i := 1) rfl) rfl) (fun vals' hv _ => ⟨rfl, hv⟩)
 ·intro k168 vals w169 h172 h173 hW171 hA170
  have hkk : k168 = 0 ∨ k168 = 1 := by have h1 : 0 ≤ k168 := h172; have h2 : k168 ≤ 1 := h173; omega
  rcases hkk with rfl | rfl
  ·skip
   have hS174 : Sep _ _ _ _ := hW171
   have e175 := hA170 4 (by decide)
   have e176 := hA170 6 (by decide)
   refine obl rfl ?_
   have hi177 : arg.toNat < fl.moves.length := (by first | omega | (simp only [lens]; omega))
   exact zG (k := 4) (i := arg) Tryd.underlying77 Tryd.sizeOf115 e175 hdm.sl e176 ⟨by omega, by omega⟩ (fun vals' hv _ => ⟨rfl, hv⟩)
  ·skip
   obtain ⟨he28, hS178⟩ := hW171
   have e179 := hA170 4 (by decide)
   have e180 := hA170 6 (by decide)
   refine obl rfl ?_
   have hi181 : arg.toNat < fl.moves.length := (by first | omega | (simp only [lens]; omega))
   exact zG (k := 4) (i := arg) Tryd.underlying77 Tryd.sizeOf115 e179 hdm.sl e180 ⟨by omega, by omega⟩ (fun vals' hv _ => ⟨rfl, hv⟩)
 ·intro k182 vals w183 h186 h187 hW185 hA184
  have e188 := hA184 7 (by decide)
  refine obl rfl ?_
  exact WW e188 (fun vals' hv _ => ⟨rfl, hv⟩)
 ·intro k189 vals w190 h193 h194 hW192 hA191
  have hkk : k189 = 0 ∨ k189 = 1 := by have h1 : 0 ≤ k189 := h193; have h2 : k189 ≤ 1 := h194; omega
  rcases hkk with rfl | rfl
  ·skip
   have hS195 : Sep _ _ _ _ := hW192
   have e196 := hA191 8 (by decide)
   refine obl rfl ?_
   have hi198 : arg.toNat < fl.moves.length := (by first | omega | (simp only [lens]; omega))
   obtain ⟨hce197, hoke197⟩ := hdm.mv hi198
   rw [← zk default hi198] at hce197 hoke197
   have hcw199 := hS195.cells hce197 (hdm.foot (ne_of_lt hi198))
   exact zg (v := .int .i64 ((fl.moves.getD arg.toNat default).to)) Tryd.isAgg3 e196 (hcw199.get (j := 1) rfl) (fun vals' hv _ => ⟨rfl, hv⟩)
  ·skip
   obtain ⟨he28, hS200⟩ := hW192
   have e201 := hA191 8 (by decide)
   refine obl rfl ?_
   have hi203 : arg.toNat < fl.moves.length := (by first | omega | (simp only [lens]; omega))
   obtain ⟨hce202, hoke202⟩ := hdm.mv hi203
   rw [← zk default hi203] at hce202 hoke202
   have hcw204 := hS200.cells hce202 (hdm.foot (ne_of_lt hi203))
   exact zg (v := .int .i64 ((fl.moves.getD arg.toNat default).to)) Tryd.isAgg3 e201 (hcw204.get (j := 1) rfl) (fun vals' hv _ => ⟨rfl, hv⟩)
 ·intro k205 vals w206 h209 h210 hW208 hA207
  obtain rfl : k205 = 1 := Nat.le_antisymm h210 h209
  obtain ⟨he28, hS211⟩ := hW208
  refine obl rfl ?_
  exact zL (b := sb vc) (o := so vc + no.toNat * 2) he28 (fun vals' hv _ => ⟨rfl, hv⟩)
 ·intro k212 vals w213 h216 h217 hW215 hA214
  have e218 := hA214 10 (by decide)
  refine obl rfl ?_
  exact xM e218 (fun vals' hv _ => ⟨rfl, hv⟩)
 ·intro k106 vals w107 h110 h111 hW109 hA108
  obtain rfl : k106 = 1 := Nat.le_antisymm h111 h110
  obtain ⟨he28, hS112⟩ := hW109
  have e113 := hA108 9 (by decide)
  have e114 := hA108 11 (by decide)
  refine obl rfl ?_
  have hi117 : arg.toNat < fl.moves.length := (by first | omega | (simp only [lens]; omega))
  obtain ⟨hce116, hoke116⟩ := hdm.mv hi117
  rw [← zk default hi117] at hce116 hoke116
  have hcw118 := hS112.cells hce116 (hdm.foot (ne_of_lt hi117))
  have hS119 : Sep G W ((RowE (α := CelS) own 42 vc sh1) :: Emp :: (Blk b6 #[.int .i64 (fl.kind), .int .i64 (fl.policy), .bool (fl.floor), dm, vc, .int .i64 (no), .int .i64 (arg)] 101) :: (Star (SetRows 3 sh1 l)) :: Rs) w107 := hS112.emp1
  refine (yY (α := CelS) (j := no.toNat) (o := 0) (u := .int .i64 ((fl.moves.getD arg.toNat default).to)) (us := [.int .i64 ((fl.moves.getD arg.toNat default).to)]) (x1 := (⟨(fl.moves.getD arg.toNat default).to, (sh1.getD no.toNat default).v⟩ : CelS)) hS119 Tryd.sizeOf3 (by first | omega | (simp only [lens]; omega)) e114 e113 rfl (Nat.le_of_ble_eq_true rfl) (yj ⟨rfl, trivial⟩) (fun _ _ _ hel _ => (by rw [← zk default (by omega)] at hel; obtain ⟨rfl, hok⟩ := hel; exact ⟨rfl, ⟨(show InR ((fl.moves.getD arg.toNat default).to) from hoke116.to), hok.one⟩⟩)) ?_)
  intro w115 hS120
  have hr121 := hS120.row (i := 0) rfl
  have hr121s : _ * 32 ≤ _ := hr121.2
  intro vals' hv hv'
  refine ⟨?_, trivial⟩
  show (vals' 1 = (.pointer (some ⟨sb vc, so vc + no.toNat * 2, none⟩) : Value)) ∧ Sep G W ((RowE (α := CelS) own 42 vc (sh1.set no.toNat (⟨(fl.moves.getD arg.toNat default).to, (sh1.getD no.toNat default).v⟩ : CelS))) :: (Blk b6 #[.int .i64 (fl.kind), .int .i64 (fl.policy), .bool (fl.floor), dm, vc, .int .i64 (no), .int .i64 (arg)] 101) :: (Star (SetRows 3 sh1 l)) :: Rs) w115
  exact ⟨(by rw [hv' 1 (by decide)]; exact he28), hS120⟩
 intro vals w219 hW220 hA221
 obtain ⟨he28, hS222⟩ := hW220
 refine yh (kv := [(0, .agg #[.int .i64 (fl.kind), .int .i64 (fl.policy), .bool (fl.floor), dm, vc, .int .i64 (no), .int .i64 (arg)]), (1, .pointer (some ⟨b6, 0, none⟩))]) ⟨rfl, rfl, trivial⟩ (fun ρw219 => ?_)
 refine zf ?_
 refine Wl Tryd.results86 ?_
 have hS223 : Sep G W ((RowE (α := CelS) own 42 vc (sh1.set no.toNat (⟨(fl.moves.getD arg.toNat default).to, (sh1.getD no.toNat default).v⟩ : CelS))) :: (Star (SetRows 3 sh1 l)) :: (Blk b6 #[.int .i64 (fl.kind), .int .i64 (fl.policy), .bool (fl.floor), dm, vc, .int .i64 (no), .int .i64 (arg)] 101) :: Rs) w219 := hS222.sel 3 [0, 2, 1] (Nat.le_add_left _ _) rfl rfl
 have hS224 : Sep G W ((CelW vc 42 3 (l.set no.toNat ⟨(fl.moves.getD arg.toNat default).to, (l.getD no.toNat default).set⟩)) :: (Blk b6 #[.int .i64 (fl.kind), .int .i64 (fl.policy), .bool (fl.floor), dm, vc, .int .i64 (no), .int .i64 (arg)] 101) :: Rs) w219 := CelW.closeN (i := no.toNat) (m := (fl.moves.getD arg.toNat default).to) hsh2.1 hsh2.2 (by omega) hS223
 have hS225 : Sep G W ((CelW vc 42 3 (l.set no.toNat ⟨(fl.moves.getD arg.toNat default).to, (l.getD no.toNat default).set⟩)) :: Rs) w219 := hS224.sel 2 [0] (Nat.le_add_left _ _) rfl rfl
 refine ⟨rfl, hS225⟩

theorem Ud {l : List Int} {x : Int} (h : ¬ x ∈ l) : XS l x = l := by
  unfold XS
  exact List.filter_eq_self.2 (fun y hy => by simp only [decide_eq_true_eq]; intro e; exact h (e ▸ hy))
theorem WB {fl : Fld} {c : Cel} {arg : Int} (h : arg ∈ c.set) : yD fl c 3 arg = c := by
  unfold yD; rw [if_neg (by decide), if_neg (by decide), if_pos rfl, ZO h]
theorem Wj {fl : Fld} {c : Cel} {arg : Int} (h : ¬ arg ∈ c.set) : yD fl c 4 arg = c := by
  unfold yD; rw [if_neg (by decide), if_neg (by decide), if_neg (by decide), if_pos rfl, Ud h]
theorem VY {fl : Fld} {c : Cel} {arg : Int} : yD fl c 3 arg = ⟨c.n, Yy c.set arg⟩ := rfl
theorem VQ {fl : Fld} {c : Cel} {arg : Int} : yD fl c 4 arg = ⟨c.n, XS c.set arg⟩ := rfl
set_option maxHeartbeats 4000000 in
theorem UJ {G : Nat → Prop} {W w : World} {Rs : List HP} {fl : Fld} {dm vc : Value} {no arg : Int} {l : List Cel} (hS0 : Sep G W ((CelW vc 42 3 l) :: Rs) w) (hno : 0 ≤ no ∧ no < l.length) (hno0 : InR no) (harg : InR arg) (hasc : Asc (yc l no).set) (hfew : (yc l no).set.length ≤ 1000) : Ret Tryd.prog 83 [.agg #[.int .i64 (fl.kind), .int .i64 (fl.policy), .bool (fl.floor), dm, vc, .int .i64 (no), .int .i64 (arg)]] w (fun r w' => r = (.tuple #[] : Value) ∧ Sep G W ((CelW vc 42 3 (l.set no.toNat (yD fl (yc l no) 3 arg))) :: Rs) w') := by
 refine zr (args := [.agg #[.int .i64 (fl.kind), .int .i64 (fl.policy), .bool (fl.floor), dm, vc, .int .i64 (no), .int .i64 (arg)]]) Tryd.func83 rfl rfl ?_
 obtain ⟨sh1, hsh2, hS3⟩ := CelW.open hS0
 have hsh2l := hsh2.1
 have hr4 := hS3.row (i := 0) rfl
 have hr4s : _ * 32 ≤ _ := hr4.2
 have hS3t : Sep G W ((RowE (α := CelS) own 42 vc sh1) :: (Star (SetRows 3 sh1 l)) :: Rs) w := hS3
 refine zd ?_
 refine za (by kernel_rfl) (fun _ => ?_)
 refine st (yb (v := .agg #[.int .i64 (fl.kind), .int .i64 (fl.policy), .bool (fl.floor), dm, vc, .int .i64 (no), .int .i64 (arg)]) rfl ?_)
 intro w7 b6 hn5
 have hS8 := hS3t.new hn5
 refine zf ?_
 refine zd ?_
 refine za (by kernel_rfl) (fun _ => ?_)
 refine st (zl (k := 7) Tryd.isAgg101 Tryd.sizeOf101 rfl rfl (CellsAt.all (hS8.blk (i := 0) rfl)) ?_)
 have hS9 := hS8.mv1
 refine st (zv (f := 79) (vals := [.agg #[.int .i64 (fl.kind), .int .i64 (fl.policy), .bool (fl.floor), dm, vc, .int .i64 (no), .int .i64 (arg)]]) (cap := []) rfl rfl Tryd.call79 (Zz  hS9 (by first | omega | (simp only [lens]; omega))) ?_)
 rintro _ w10 ⟨rfl, hS11⟩
 have hr12 := hS11.row (i := 0) rfl
 have hr12s : _ * 32 ≤ _ := hr12.2
 have hS13 := hS11.mv2
 have hS14 : Sep G W ((RowE (α := Int) own 3 ((sh1.getD no.toNat default).v) ((l.getD no.toNat default).set)) :: (Star ((SetRows 3 sh1 l).set no.toNat Emp)) :: (RowE (α := CelS) own 42 vc sh1) :: (Blk b6 #[.int .i64 (fl.kind), .int .i64 (fl.policy), .bool (fl.floor), dm, vc, .int .i64 (no), .int .i64 (arg)] 101) :: Rs) w10 := Sep.takeStar hS13 (SetRows.get (i := no.toNat) (by omega) (by omega))
 have hr15 := hS14.row (i := 0) rfl
 have hr15s : _ * 8 ≤ _ := hr15.2
 refine st (ze (v := .pointer (some ⟨sb vc, so vc + no.toNat * 2, none⟩)) rfl ?_)
 refine zf ?_
 refine zd ?_
 refine zP ((fun TT pp0 => WF [fun vals wq => Sep G W (pp0 :: TT) wq, fun vals wq => ∃ (ix76 : Nat), (vals 6 = (.tuple #[.int .i64 ((ix76 : Nat) : Int), .bool (decide (arg ∈ ((l.getD no.toNat default).set)))] : Value)) ∧ (ix76 ≤ ((l.getD no.toNat default).set).length ∧ (∀ q, q < ix76 → ((l.getD no.toNat default).set).getD q 0 < arg) ∧ (∀ q, ix76 ≤ q → q < ((l.getD no.toNat default).set).length → arg ≤ ((l.getD no.toNat default).set).getD q 0)) ∧ Sep G W (pp0 :: TT) wq]) ((Star ((SetRows 3 sh1 l).set no.toNat Emp)) :: (RowE (α := CelS) own 42 vc sh1) :: (Blk b6 #[.int .i64 (fl.kind), .int .i64 (fl.policy), .bool (fl.floor), dm, vc, .int .i64 (no), .int .i64 (arg)] 101) :: Rs) (RowE (α := Int) own 3 ((sh1.getD no.toNat default).v) ((l.getD no.toNat default).set))) (AF [Vl 0 (.pointer (some ⟨sb vc, so vc + no.toNat * 2, none⟩)), Vl 1 (.pointer (some ⟨sb vc, so vc + no.toNat * 2, none⟩)), Vl 2 (.pointer (some ⟨sb vc, so vc + no.toNat * 2 + 1, none⟩)), Vl 3 ((sh1.getD no.toNat default).v), Vl 4 (.pointer (some ⟨b6, 6, none⟩)), Vl 5 (.int .i64 (arg)), fun _ => True, fun vals => ∀ (ix76 : Nat), vals 6 = (.tuple #[.int .i64 ((ix76 : Nat) : Int), .bool (decide (arg ∈ ((l.getD no.toNat default).set)))] : Value) → vals 7 = (.tuple #[.int .i64 ((ix76 : Nat) : Int), .bool (decide (arg ∈ ((l.getD no.toNat default).set)))] : Value), fun vals => ∀ (ix76 : Nat), vals 6 = (.tuple #[.int .i64 ((ix76 : Nat) : Int), .bool (decide (arg ∈ ((l.getD no.toNat default).set)))] : Value) → vals 8 = (.int .i64 ((ix76 : Nat) : Int) : Value), Vl 9 (.bool (decide (arg ∈ ((l.getD no.toNat default).set)))), fun vals => ∀ (ix76 : Nat), vals 6 = (.tuple #[.int .i64 ((ix76 : Nat) : Int), .bool (decide (arg ∈ ((l.getD no.toNat default).set)))] : Value) → vals 10 = (.int .i64 ((ix76 : Nat) : Int) : Value), Vl 11 (.bool (decide (arg ∈ ((l.getD no.toNat default).set))))]) [[], [0], [0, 1], [0, 1, 2], [], [4], [0, 1, 2, 3, 4, 5], [0, 1, 2, 3, 4, 5, 6], [0, 1, 2, 3, 4, 5, 6, 7], [0, 1, 2, 3, 4, 5, 6, 7], [0, 1, 2, 3, 4, 5, 6, 7, 8], [0, 1, 2, 3, 4, 5, 6, 7, 8, 9, 10]] [6] [(0, 0), (0, 0), (0, 0), (0, 0), (0, 0), (0, 0), (0, 0), (1, 1), (1, 1), (1, 1), (1, 1), (1, 1)] (by kernel_rfl) (by kernel_rfl) (by kernel_rfl) rfl (by kernel_rfl) (by kernel_rfl) (fun _ h1 h2 h3 h4 _ => hS14.same h1 h2 h3 h4) ?_ (yg ⟨dA, dA, dA, dA, dA, dA, dT, fun vals vals' hv h => fun ix76 hq0 => (hv 7 (.inl rfl)).trans (h ix76 ((hv 6 (.inr (by decide))).symm.trans hq0)), fun vals vals' hv h => fun ix76 hq0 => (hv 8 (.inl rfl)).trans (h ix76 ((hv 6 (.inr (by decide))).symm.trans hq0)), dA, fun vals vals' hv h => fun ix76 hq0 => (hv 10 (.inl rfl)).trans (h ix76 ((hv 6 (.inr (by decide))).symm.trans hq0)), dA, trivial⟩) ⟨?_, ?_, ?_, ?_, ?_, ?_, ?_, ?_, ?_, ?_, ?_, ?_, trivial⟩ ?_
 ·intro k vals vals' w hv h
  have e : ∀ j ∈ ([6] : List Nat), vals' j = vals j := hv
  match k, h with
  | 0, h => exact h
  | 1, h => exact (by simpa only [WF, List.getElem?_cons_zero, List.getElem?_cons_succ, e 6 (by decide)] using h)
  | _ + 2, _ => trivial
 ·intro k121 vals w122 h125 h126 hW124 hA123
  refine obl rfl ?_
  exact zb (v := .pointer (some ⟨sb vc, so vc + no.toNat * 2, none⟩)) rfl (fun vals' hv _ => ⟨rfl, hv⟩)
 ·intro k127 vals w128 h131 h132 hW130 hA129
  have e133 := hA129 0 (by decide)
  refine obl rfl ?_
  exact zL (b := sb vc) (o := so vc + no.toNat * 2) e133 (fun vals' hv _ => ⟨rfl, hv⟩)
 ·intro k134 vals w135 h138 h139 hW137 hA136
  have e140 := hA136 1 (by decide)
  refine obl rfl ?_
  exact xl e140 (fun vals' hv _ => ⟨rfl, hv⟩)
 ·intro k141 vals w142 h145 h146 hW144 hA143
  obtain rfl : k141 = 0 := Nat.le_antisymm h146 h145
  have hS147 : Sep _ _ _ _ := hW144
  have e148 := hA143 2 (by decide)
  refine obl rfl ?_
  have hi150 : no.toNat < sh1.length := (by first | omega | (simp only [lens]; omega))
  obtain ⟨_, _, hce149, rfl, hoke149⟩ := hS147.rowAt (i := 2) (j := no.toNat) rfl hi150
  rw [← zk default hi150] at hce149 hoke149
  exact zg (v := (sh1.getD no.toNat default).v) Tryd.isAgg40 e148 (hce149.get (j := 1) rfl) (fun vals' hv _ => ⟨rfl, hv⟩)
 ·intro k151 vals w152 h155 h156 hW154 hA153
  refine obl rfl ?_
  exact yT rfl (fun vals' hv _ => ⟨rfl, hv⟩)
 ·intro k157 vals w158 h161 h162 hW160 hA159
  obtain rfl : k157 = 0 := Nat.le_antisymm h162 h161
  have hS163 : Sep _ _ _ _ := hW160
  have e164 := hA159 4 (by decide)
  refine obl rfl ?_
  exact zg (v := .int .i64 (arg)) Tryd.isAgg3 e164 (zh (hS163.blk (i := 3) rfl) rfl) (fun vals' hv _ => ⟨rfl, hv⟩)
 ·intro k60 vals w61 h64 h65 hW63 hA62
  obtain rfl : k60 = 0 := Nat.le_antisymm h65 h64
  have hS66 : Sep _ _ _ _ := hW63
  have e67 := hA62 3 (by decide)
  have e68 := hA62 5 (by decide)
  refine obl rfl ?_
  obtain ⟨G69, hA71, hB72, hS73, hk74⟩ := hS66.lend
  have hrd75 := RowE.rd hA71
  have hrd75s : _ * 8 ≤ _ := hrd75.small
  refine (zv (f := 94) (vals := [(sh1.getD no.toNat default).v, .int .i64 (arg)]) (cap := []) rfl (xj ⟨e67, e68, trivial⟩) Tryd.call94 (ZK (l := (l.getD no.toNat default).set) (vl := (sh1.getD no.toNat default).v) (x := arg) hrd75 (by omega) hS73 (hasc)) ?_)
  rintro _ w78 ⟨ix76, rfl, hix77, hS79⟩
  have hS80 := hk74 _ _ hS79
  intro vals' hv hv'
  refine ⟨?_, trivial⟩
  show ∃ (ix76 : Nat), (vals' 6 = (.tuple #[.int .i64 ((ix76 : Nat) : Int), .bool (decide (arg ∈ ((l.getD no.toNat default).set)))] : Value)) ∧ (ix76 ≤ ((l.getD no.toNat default).set).length ∧ (∀ q, q < ix76 → ((l.getD no.toNat default).set).getD q 0 < arg) ∧ (∀ q, ix76 ≤ q → q < ((l.getD no.toNat default).set).length → arg ≤ ((l.getD no.toNat default).set).getD q 0)) ∧ Sep G W ((RowE (α := Int) own 3 ((sh1.getD no.toNat default).v) ((l.getD no.toNat default).set)) :: (Star ((SetRows 3 sh1 l).set no.toNat Emp)) :: (RowE (α := CelS) own 42 vc sh1) :: (Blk b6 #[.int .i64 (fl.kind), .int .i64 (fl.policy), .bool (fl.floor), dm, vc, .int .i64 (no), .int .i64 (arg)] 101) :: Rs) w78
  exact ⟨ix76, hv, hix77, hS80⟩
 ·intro k165 vals w166 h169 h170 hW168 hA167
  obtain rfl : k165 = 1 := Nat.le_antisymm h170 h169
  obtain ⟨ix76, he81, hix77, hS171⟩ := hW168
  refine obl rfl ?_
  refine zb (v := .tuple #[.int .i64 ((ix76 : Nat) : Int), .bool (decide (arg ∈ ((l.getD no.toNat default).set)))]) he81 (fun vals' hv hv' => ⟨rfl, ?_⟩)
  intro ix76q hq0
  rw [hv' 6 (by decide)] at hq0; cases he81.symm.trans hq0
  exact hv
 ·intro k172 vals w173 h176 h177 hW175 hA174
  obtain rfl : k172 = 1 := Nat.le_antisymm h177 h176
  obtain ⟨ix76, he81, hix77, hS178⟩ := hW175
  have e179 : vals 7 = (.tuple #[.int .i64 ((ix76 : Nat) : Int), .bool (decide (arg ∈ ((l.getD no.toNat default).set)))] : Value) := hA174 7 (by decide) ix76 he81
  refine obl rfl ?_
  refine zH (vs := [.int .i64 ((ix76 : Nat) : Int), .bool (decide (arg ∈ ((l.getD no.toNat default).set)))]) (i := 0) (v := .int .i64 ((ix76 : Nat) : Int)) e179 rfl (fun vals' hv hv' => ⟨rfl, ?_⟩)
  intro ix76q hq0
  rw [hv' 6 (by decide)] at hq0; cases he81.symm.trans hq0
  exact hv
 ·intro k180 vals w181 h184 h185 hW183 hA182
  obtain rfl : k180 = 1 := Nat.le_antisymm h185 h184
  obtain ⟨ix76, he81, hix77, hS186⟩ := hW183
  have e187 : vals 7 = (.tuple #[.int .i64 ((ix76 : Nat) : Int), .bool (decide (arg ∈ ((l.getD no.toNat default).set)))] : Value) := hA182 7 (by decide) ix76 he81
  refine obl rfl ?_
  exact zH (vs := [.int .i64 ((ix76 : Nat) : Int), .bool (decide (arg ∈ ((l.getD no.toNat default).set)))]) (i := 1) (v := .bool (decide (arg ∈ ((l.getD no.toNat default).set)))) e187 rfl (fun vals' hv _ => ⟨rfl, hv⟩)
 ·intro k188 vals w189 h192 h193 hW191 hA190
  obtain rfl : k188 = 1 := Nat.le_antisymm h193 h192
  obtain ⟨ix76, he81, hix77, hS194⟩ := hW191
  have e195 : vals 8 = (.int .i64 ((ix76 : Nat) : Int) : Value) := hA190 8 (by decide) ix76 he81
  refine obl rfl ?_
  refine ze (v := .int .i64 ((ix76 : Nat) : Int)) e195 (fun vals' hv hv' => ⟨rfl, ?_⟩)
  intro ix76q hq0
  rw [hv' 6 (by decide)] at hq0; cases he81.symm.trans hq0
  exact hv
 ·intro k196 vals w197 h200 h201 hW199 hA198
  obtain rfl : k196 = 1 := Nat.le_antisymm h201 h200
  obtain ⟨ix76, he81, hix77, hS202⟩ := hW199
  have e203 := hA198 9 (by decide)
  refine obl rfl ?_
  exact ze (v := .bool (decide (arg ∈ ((l.getD no.toNat default).set)))) e203 (fun vals' hv _ => ⟨rfl, hv⟩)
 intro vals w204 hW205 hA206
 obtain ⟨ix76, he81, hix77, hS207⟩ := hW205
 have e208 : vals 10 = (.int .i64 ((ix76 : Nat) : Int) : Value) := hA206 10 (by decide) ix76 he81
 have e209 := hA206 11 (by decide)
 refine yh (kv := [(0, .agg #[.int .i64 (fl.kind), .int .i64 (fl.policy), .bool (fl.floor), dm, vc, .int .i64 (no), .int .i64 (arg)]), (1, .pointer (some ⟨b6, 0, none⟩)), (5, .agg #[.int .i64 (fl.kind), .int .i64 (fl.policy), .bool (fl.floor), dm, vc, .int .i64 (no), .int .i64 (arg)]), (6, .pointer (some ⟨sb vc, so vc + no.toNat * 2, none⟩)), (2, .pointer (some ⟨sb vc, so vc + no.toNat * 2, none⟩)), (3, .int .i64 ((ix76 : Nat) : Int)), (4, .bool (decide (arg ∈ ((l.getD no.toNat default).set))))]) ⟨rfl, rfl, rfl, rfl, rfl, (by exact e208), (by exact e209), trivial⟩ (fun ρw204 => ?_)
 refine zf ?_
 refine zd ?_
 refine za (by kernel_rfl) (fun _ => ?_)
 refine st (zb (v := .bool (decide (arg ∈ ((l.getD no.toNat default).set)))) rfl ?_)
 refine st (yJ (a := decide (arg ∈ ((l.getD no.toNat default).set))) rfl ?_)
 refine zf ?_
 cases hc210 : !(decide (arg ∈ ((l.getD no.toNat default).set)))
 ·skip
  have hc210 := yq hc210
  refine zo rfl ?_
  refine zw ?_
  refine Wl Tryd.results83 ?_
  have hS211 : Sep G W ((CelW vc 42 3 l) :: (Blk b6 #[.int .i64 (fl.kind), .int .i64 (fl.policy), .bool (fl.floor), dm, vc, .int .i64 (no), .int .i64 (arg)] 101) :: Rs) w204 := CelW.close0 (i := no.toNat) hsh2.1 hsh2.2 (by omega) hS207
  have hS212 : Sep G W ((CelW vc 42 3 (l.set no.toNat (yD fl (yc l no) 3 arg))) :: (Blk b6 #[.int .i64 (fl.kind), .int .i64 (fl.policy), .bool (fl.floor), dm, vc, .int .i64 (no), .int .i64 (arg)] 101) :: Rs) w204 := by
    rw [WB (show arg ∈ (yc l no).set from hc210), show l.set no.toNat (yc l no) = l from xq default (by omega)]
    exact hS211
  have hS213 : Sep G W ((CelW vc 42 3 (l.set no.toNat (yD fl (yc l no) 3 arg))) :: Rs) w204 := hS212.sel 2 [0] (Nat.le_add_left _ _) rfl rfl
  refine ⟨rfl, hS213⟩
 ·skip
  have hc210 := zY hc210
  refine zq rfl ?_
  refine zP ((fun TT pp0 pp1 pp2 => WF [fun vals wq => Sep G W (pp0 :: pp1 :: pp2 :: TT) wq, fun vals wq => ∃ (b279 : Nat), (vals 8 = ((.slice (some ⟨b279, 0, none⟩) 1 1) : Value)) ∧ Sep G W ((Blk b279 #[.int .i64 (arg)] 3) :: pp0 :: pp1 :: pp2 :: TT) wq, fun vals wq => ∃ (b279 : Nat) (v293 : Value), (vals 8 = ((.slice (some ⟨b279, 0, none⟩) 1 1) : Value)) ∧ (vals 9 = (v293 : Value)) ∧ Sep G W ((RowE (α := Int) own 3 v293 (((l.getD no.toNat default).set).take ix76 ++ arg :: ((l.getD no.toNat default).set).drop ix76)) :: pp1 :: pp2 :: TT) wq, fun vals wq => ∃ (b279 : Nat) (v293 : Value), (vals 8 = ((.slice (some ⟨b279, 0, none⟩) 1 1) : Value)) ∧ (vals 9 = (v293 : Value)) ∧ Sep G W ((RowE (α := CelS) own 42 vc (sh1.set no.toNat (⟨(sh1.getD no.toNat default).n, v293⟩ : CelS))) :: (RowE (α := Int) own 3 v293 (((l.getD no.toNat default).set).take ix76 ++ arg :: ((l.getD no.toNat default).set).drop ix76)) :: pp1 :: TT) wq]) ((Blk b6 #[.int .i64 (fl.kind), .int .i64 (fl.policy), .bool (fl.floor), dm, vc, .int .i64 (no), .int .i64 (arg)] 101) :: Rs) (RowE (α := Int) own 3 ((sh1.getD no.toNat default).v) ((l.getD no.toNat default).set)) (Star ((SetRows 3 sh1 l).set no.toNat Emp)) (RowE (α := CelS) own 42 vc sh1)) (AF [Vl 0 (.pointer (some ⟨sb vc, so vc + no.toNat * 2, none⟩)), Vl 1 (.pointer (some ⟨sb vc, so vc + no.toNat * 2, none⟩)), Vl 2 (.pointer (some ⟨sb vc, so vc + no.toNat * 2, none⟩)), Vl 3 (.pointer (some ⟨sb vc, so vc + no.toNat * 2 + 1, none⟩)), Vl 4 ((sh1.getD no.toNat default).v), Vl 5 (.int .i64 ((ix76 : Nat) : Int)), Vl 6 (.pointer (some ⟨b6, 6, none⟩)), Vl 7 (.int .i64 (arg)), fun _ => True, fun _ => True, Vl 10 (.pointer (some ⟨sb vc, so vc + no.toNat * 2, none⟩)), Vl 11 (.pointer (some ⟨sb vc, so vc + no.toNat * 2 + 1, none⟩)), fun _ => True]) [[], [], [1], [1, 2], [1, 2, 3], [], [], [6], [6, 7], [1, 2, 3, 4, 5, 6, 7, 8], [0, 1, 2, 3, 4, 5, 6, 7, 8, 9], [0, 1, 2, 3, 4, 5, 6, 7, 8, 9, 10], [0, 1, 2, 3, 4, 5, 6, 7, 8, 9, 10, 11]] [8, 9, 12] [(0, 2), (0, 1), (0, 1), (0, 1), (0, 1), (0, 1), (0, 0), (0, 0), (0, 0), (1, 1), (2, 2), (2, 2), (2, 2)] (by kernel_rfl) (by kernel_rfl) (by kernel_rfl) rfl (by kernel_rfl) (by kernel_rfl) (fun _ h1 h2 h3 h4 _ => hS207.same h1 h2 h3 h4) ?_ (yg ⟨dA, dA, dA, dA, dA, dA, dA, dA, dT, dT, dA, dA, dT, trivial⟩) ⟨?_, ?_, ?_, ?_, ?_, ?_, ?_, ?_, ?_, ?_, ?_, ?_, ?_, trivial⟩ ?_
  ·intro k vals vals' w hv h
   have e : ∀ j ∈ ([8, 9, 12] : List Nat), vals' j = vals j := hv
   match k, h with
   | 0, h => exact h
   | 1, h => exact (by simpa only [WF, List.getElem?_cons_zero, List.getElem?_cons_succ, e 8 (by decide)] using h)
   | 2, h => exact (by simpa only [WF, List.getElem?_cons_zero, List.getElem?_cons_succ, e 8 (by decide), e 9 (by decide)] using h)
   | 3, h => exact (by simpa only [WF, List.getElem?_cons_zero, List.getElem?_cons_succ, e 8 (by decide), e 9 (by decide)] using h)
   | _ + 4, _ => trivial
  ·intro k326 vals w327 h330 h331 hW329 hA328
   refine obl rfl ?_
   exact zb (v := .pointer (some ⟨sb vc, so vc + no.toNat * 2, none⟩)) rfl (fun vals' hv _ => ⟨rfl, hv⟩)
  ·intro k332 vals w333 h336 h337 hW335 hA334
   refine obl rfl ?_
   exact zb (v := .pointer (some ⟨sb vc, so vc + no.toNat * 2, none⟩)) rfl (fun vals' hv _ => ⟨rfl, hv⟩)
  ·intro k338 vals w339 h342 h343 hW341 hA340
   have e344 := hA340 1 (by decide)
   refine obl rfl ?_
   exact zL (b := sb vc) (o := so vc + no.toNat * 2) e344 (fun vals' hv _ => ⟨rfl, hv⟩)
  ·intro k345 vals w346 h349 h350 hW348 hA347
   have e351 := hA347 2 (by decide)
   refine obl rfl ?_
   exact xl e351 (fun vals' hv _ => ⟨rfl, hv⟩)
  ·intro k352 vals w353 h356 h357 hW355 hA354
   have hkk : k352 = 0 ∨ k352 = 1 := by have h1 : 0 ≤ k352 := h356; have h2 : k352 ≤ 1 := h357; omega
   rcases hkk with rfl | rfl
   ·skip
    have hS358 : Sep _ _ _ _ := hW355
    have e359 := hA354 3 (by decide)
    refine obl rfl ?_
    have hi361 : no.toNat < sh1.length := (by first | omega | (simp only [lens]; omega))
    obtain ⟨_, _, hce360, rfl, hoke360⟩ := hS358.rowAt (i := 2) (j := no.toNat) rfl hi361
    rw [← zk default hi361] at hce360 hoke360
    exact zg (v := (sh1.getD no.toNat default).v) Tryd.isAgg40 e359 (hce360.get (j := 1) rfl) (fun vals' hv _ => ⟨rfl, hv⟩)
   ·skip
    obtain ⟨b279, he282, hS362⟩ := hW355
    have e363 := hA354 3 (by decide)
    refine obl rfl ?_
    have hi365 : no.toNat < sh1.length := (by first | omega | (simp only [lens]; omega))
    obtain ⟨_, _, hce364, rfl, hoke364⟩ := hS362.rowAt (i := 3) (j := no.toNat) rfl hi365
    rw [← zk default hi365] at hce364 hoke364
    exact zg (v := (sh1.getD no.toNat default).v) Tryd.isAgg40 e363 (hce364.get (j := 1) rfl) (fun vals' hv _ => ⟨rfl, hv⟩)
  ·intro k366 vals w367 h370 h371 hW369 hA368
   refine obl rfl ?_
   exact zb (v := .int .i64 ((ix76 : Nat) : Int)) rfl (fun vals' hv _ => ⟨rfl, hv⟩)
  ·intro k372 vals w373 h376 h377 hW375 hA374
   refine obl rfl ?_
   exact yT rfl (fun vals' hv _ => ⟨rfl, hv⟩)
  ·intro k378 vals w379 h382 h383 hW381 hA380
   obtain rfl : k378 = 0 := Nat.le_antisymm h383 h382
   have hS384 : Sep _ _ _ _ := hW381
   have e385 := hA380 6 (by decide)
   refine obl rfl ?_
   exact zg (v := .int .i64 (arg)) Tryd.isAgg3 e385 (zh (hS384.blk (i := 3) rfl) rfl) (fun vals' hv _ => ⟨rfl, hv⟩)
  ·intro k270 vals w271 h274 h275 hW273 hA272
   obtain rfl : k270 = 0 := Nat.le_antisymm h275 h274
   have hS276 : Sep _ _ _ _ := hW273
   have e277 := hA272 7 (by decide)
   refine obl rfl ?_
   refine (zB (k := 1) (parts' := [(0, .int .i64 (arg))]) (c := #[.int .i64 (arg)]) Tryd.underlying40 Tryd.sizeOf3 Tryd.zeroValue3 (by decide) (xE ⟨rfl, e277, trivial⟩) (by kernel_rfl) ?_)
   intro w280 b279 hn278
   have hS281 := hS276.new hn278
   intro vals' hv hv'
   refine ⟨?_, trivial⟩
   show ∃ (b279 : Nat), (vals' 8 = ((.slice (some ⟨b279, 0, none⟩) 1 1) : Value)) ∧ Sep G W ((Blk b279 #[.int .i64 (arg)] 3) :: (RowE (α := Int) own 3 ((sh1.getD no.toNat default).v) ((l.getD no.toNat default).set)) :: (Star ((SetRows 3 sh1 l).set no.toNat Emp)) :: (RowE (α := CelS) own 42 vc sh1) :: (Blk b6 #[.int .i64 (fl.kind), .int .i64 (fl.policy), .bool (fl.floor), dm, vc, .int .i64 (no), .int .i64 (arg)] 101) :: Rs) w280
   exact ⟨b279, hv, hS281⟩
  ·intro k283 vals w284 h287 h288 hW286 hA285
   obtain rfl : k283 = 1 := Nat.le_antisymm h288 h287
   obtain ⟨b279, he282, hS289⟩ := hW286
   have e290 := hA285 4 (by decide)
   have e291 := hA285 5 (by decide)
   refine obl rfl ?_
   have hS292 := hS289.mv1
   refine (zv (f := 95) (vals := [(sh1.getD no.toNat default).v, .int .i64 ((ix76 : Nat) : Int), (.slice (some ⟨b279, 0, none⟩) 1 1)]) (cap := []) rfl (xj ⟨e290, e291, he282, trivial⟩) Tryd.call95 (Uh (i := ix76) hS292 (hix77.1) (harg) ((by have h9 : ((l.getD no.toNat default).set).length ≤ 1000 := hfew; omega))) ?_)
   rintro v293 w294 ⟨_, rfl, hS295⟩
   have hr296 := hS295.row (i := 0) rfl
   have hr296s : _ * 8 ≤ _ := hr296.2
   intro vals' hv hv'
   refine ⟨?_, trivial⟩
   show ∃ (b279 : Nat) (v293 : Value), (vals' 8 = ((.slice (some ⟨b279, 0, none⟩) 1 1) : Value)) ∧ (vals' 9 = (v293 : Value)) ∧ Sep G W ((RowE (α := Int) own 3 v293 (((l.getD no.toNat default).set).take ix76 ++ arg :: ((l.getD no.toNat default).set).drop ix76)) :: (Star ((SetRows 3 sh1 l).set no.toNat Emp)) :: (RowE (α := CelS) own 42 vc sh1) :: (Blk b6 #[.int .i64 (fl.kind), .int .i64 (fl.policy), .bool (fl.floor), dm, vc, .int .i64 (no), .int .i64 (arg)] 101) :: Rs) w294
   exact ⟨b279, v293, (by rw [hv' 8 (by decide)]; exact he282), hv, hS295⟩
  ·intro k386 vals w387 h390 h391 hW389 hA388
   have e392 := hA388 0 (by decide)
   refine obl rfl ?_
   exact zL (b := sb vc) (o := so vc + no.toNat * 2) e392 (fun vals' hv _ => ⟨rfl, hv⟩)
  ·intro k393 vals w394 h397 h398 hW396 hA395
   have e399 := hA395 10 (by decide)
   refine obl rfl ?_
   exact xl e399 (fun vals' hv _ => ⟨rfl, hv⟩)
  ·intro k312 vals w313 h316 h317 hW315 hA314
   obtain rfl : k312 = 2 := Nat.le_antisymm h317 h316
   obtain ⟨b279, v293, he282, he297, hS318⟩ := hW315
   have e319 := hA314 11 (by decide)
   refine obl rfl ?_
   have hr321 := hS318.row (i := 0) rfl
   have hr321s : _ * 8 ≤ _ := hr321.2
   have hS322 := hS318.mv2
   have hS323 : Sep G W ((RowE (α := CelS) own 42 vc sh1) :: Emp :: (RowE (α := Int) own 3 v293 (((l.getD no.toNat default).set).take ix76 ++ arg :: ((l.getD no.toNat default).set).drop ix76)) :: (Star ((SetRows 3 sh1 l).set no.toNat Emp)) :: (Blk b6 #[.int .i64 (fl.kind), .int .i64 (fl.policy), .bool (fl.floor), dm, vc, .int .i64 (no), .int .i64 (arg)] 101) :: Rs) w313 := hS322.emp1
   refine (yY (α := CelS) (j := no.toNat) (o := 1) (u := v293) (us := [v293]) (x1 := (⟨(sh1.getD no.toNat default).n, v293⟩ : CelS)) hS323 Tryd.sizeOf40 (by first | omega | (simp only [lens]; omega)) e319 he297 (congrArg Array.toList (yL hr321.1.one)) (Nat.le_of_ble_eq_true rfl) (yj ⟨hr321.1.one, trivial⟩) (fun _ _ _ hel _ => (by rw [← zk default (by omega)] at hel; obtain ⟨rfl, hok⟩ := hel; exact ⟨rfl, ⟨hok.n, hr321.1.one⟩⟩)) ?_)
   intro w320 hS324
   have hr325 := hS324.row (i := 0) rfl
   have hr325s : _ * 32 ≤ _ := hr325.2
   intro vals' hv hv'
   refine ⟨?_, trivial⟩
   show ∃ (b279 : Nat) (v293 : Value), (vals' 8 = ((.slice (some ⟨b279, 0, none⟩) 1 1) : Value)) ∧ (vals' 9 = (v293 : Value)) ∧ Sep G W ((RowE (α := CelS) own 42 vc (sh1.set no.toNat (⟨(sh1.getD no.toNat default).n, v293⟩ : CelS))) :: (RowE (α := Int) own 3 v293 (((l.getD no.toNat default).set).take ix76 ++ arg :: ((l.getD no.toNat default).set).drop ix76)) :: (Star ((SetRows 3 sh1 l).set no.toNat Emp)) :: (Blk b6 #[.int .i64 (fl.kind), .int .i64 (fl.policy), .bool (fl.floor), dm, vc, .int .i64 (no), .int .i64 (arg)] 101) :: Rs) w320
   exact ⟨b279, v293, (by rw [hv' 8 (by decide)]; exact he282), (by rw [hv' 9 (by decide)]; exact he297), hS324⟩
  intro vals w400 hW401 hA402
  obtain ⟨b279, v293, he282, he297, hS403⟩ := hW401
  refine yh (kv := [(0, .agg #[.int .i64 (fl.kind), .int .i64 (fl.policy), .bool (fl.floor), dm, vc, .int .i64 (no), .int .i64 (arg)]), (1, .pointer (some ⟨b6, 0, none⟩)), (5, .agg #[.int .i64 (fl.kind), .int .i64 (fl.policy), .bool (fl.floor), dm, vc, .int .i64 (no), .int .i64 (arg)]), (6, .pointer (some ⟨sb vc, so vc + no.toNat * 2, none⟩)), (2, .pointer (some ⟨sb vc, so vc + no.toNat * 2, none⟩)), (3, .int .i64 ((ix76 : Nat) : Int)), (4, .bool (decide (arg ∈ ((l.getD no.toNat default).set)))), (17, .bool (decide (arg ∈ ((l.getD no.toNat default).set)))), (18, .bool true)]) ⟨rfl, rfl, rfl, rfl, rfl, rfl, rfl, rfl, rfl, trivial⟩ (fun ρw400 => ?_)
  refine zf ?_
  refine Wl Tryd.results83 ?_
  have hS404 : Sep G W ((RowE (α := Int) own 3 v293 (((l.getD no.toNat default).set).take ix76 ++ arg :: ((l.getD no.toNat default).set).drop ix76)) :: (Star ((SetRows 3 sh1 l).set no.toNat Emp)) :: (RowE (α := CelS) own 42 vc (sh1.set no.toNat (⟨(sh1.getD no.toNat default).n, v293⟩ : CelS))) :: (Blk b6 #[.int .i64 (fl.kind), .int .i64 (fl.policy), .bool (fl.floor), dm, vc, .int .i64 (no), .int .i64 (arg)] 101) :: Rs) w400 := hS403.sel 4 [1, 2, 0, 3] (Nat.le_add_left _ _) rfl rfl
  have hS405 : Sep G W ((CelW vc 42 3 (l.set no.toNat (⟨(l.getD no.toNat default).n, (((l.getD no.toNat default).set).take ix76 ++ arg :: ((l.getD no.toNat default).set).drop ix76)⟩ : Cel))) :: (Blk b6 #[.int .i64 (fl.kind), .int .i64 (fl.policy), .bool (fl.floor), dm, vc, .int .i64 (no), .int .i64 (arg)] 101) :: Rs) w400 := CelW.close (i := no.toNat) (s := (⟨(sh1.getD no.toNat default).n, v293⟩ : CelS)) (c := (⟨(l.getD no.toNat default).n, (((l.getD no.toNat default).set).take ix76 ++ arg :: ((l.getD no.toNat default).set).drop ix76)⟩ : Cel)) hsh2.1 hsh2.2 (by omega) (hsh2.2 _ (by omega)) hS404
  have hS406 : Sep G W ((CelW vc 42 3 (l.set no.toNat (yD fl (yc l no) 3 arg))) :: (Blk b6 #[.int .i64 (fl.kind), .int .i64 (fl.policy), .bool (fl.floor), dm, vc, .int .i64 (no), .int .i64 (arg)] 101) :: Rs) w400 := by
    rw [VY]; rw [QA (l := (l.getD no.toNat default).set) hasc hix77.1 hix77.2.1 hix77.2.2 hc210] at hS405
    exact hS405
  have hS407 : Sep G W ((CelW vc 42 3 (l.set no.toNat (yD fl (yc l no) 3 arg))) :: Rs) w400 := hS406.sel 2 [0] (Nat.le_add_left _ _) rfl rfl
  refine ⟨rfl, hS407⟩

set_option maxHeartbeats 4000000 in
theorem UM {G : Nat → Prop} {W w : World} {Rs : List HP} {fl : Fld} {dm vc : Value} {no arg : Int} {l : List Cel} (hS0 : Sep G W ((CelW vc 42 3 l) :: Rs) w) (hno : 0 ≤ no ∧ no < l.length) (hno0 : InR no) (harg : InR arg) (hasc : Asc (yc l no).set) : Ret Tryd.prog 84 [.agg #[.int .i64 (fl.kind), .int .i64 (fl.policy), .bool (fl.floor), dm, vc, .int .i64 (no), .int .i64 (arg)]] w (fun r w' => r = (.tuple #[] : Value) ∧ Sep G W ((CelW vc 42 3 (l.set no.toNat (yD fl (yc l no) 4 arg))) :: Rs) w') := by
 refine zr (args := [.agg #[.int .i64 (fl.kind), .int .i64 (fl.policy), .bool (fl.floor), dm, vc, .int .i64 (no), .int .i64 (arg)]]) Tryd.func84 rfl rfl ?_
 obtain ⟨sh1, hsh2, hS3⟩ := CelW.open hS0
 have hsh2l := hsh2.1
 have hr4 := hS3.row (i := 0) rfl
 have hr4s : _ * 32 ≤ _ := hr4.2
 have hS3t : Sep G W ((RowE (α := CelS) own 42 vc sh1) :: (Star (SetRows 3 sh1 l)) :: Rs) w := hS3
 refine zd ?_
 refine za (by kernel_rfl) (fun _ => ?_)
 refine st (yb (v := .agg #[.int .i64 (fl.kind), .int .i64 (fl.policy), .bool (fl.floor), dm, vc, .int .i64 (no), .int .i64 (arg)]) rfl ?_)
 intro w7 b6 hn5
 have hS8 := hS3t.new hn5
 refine zf ?_
 refine zd ?_
 refine za (by kernel_rfl) (fun _ => ?_)
 refine st (zl (k := 7) Tryd.isAgg101 Tryd.sizeOf101 rfl rfl (CellsAt.all (hS8.blk (i := 0) rfl)) ?_)
 have hS9 := hS8.mv1
 refine st (zv (f := 79) (vals := [.agg #[.int .i64 (fl.kind), .int .i64 (fl.policy), .bool (fl.floor), dm, vc, .int .i64 (no), .int .i64 (arg)]]) (cap := []) rfl rfl Tryd.call79 (Zz  hS9 (by first | omega | (simp only [lens]; omega))) ?_)
 rintro _ w10 ⟨rfl, hS11⟩
 have hr12 := hS11.row (i := 0) rfl
 have hr12s : _ * 32 ≤ _ := hr12.2
 have hS13 := hS11.mv2
 have hS14 : Sep G W ((RowE (α := Int) own 3 ((sh1.getD no.toNat default).v) ((l.getD no.toNat default).set)) :: (Star ((SetRows 3 sh1 l).set no.toNat Emp)) :: (RowE (α := CelS) own 42 vc sh1) :: (Blk b6 #[.int .i64 (fl.kind), .int .i64 (fl.policy), .bool (fl.floor), dm, vc, .int .i64 (no), .int .i64 (arg)] 101) :: Rs) w10 := Sep.takeStar hS13 (SetRows.get (i := no.toNat) (by omega) (by omega))
 have hr15 := hS14.row (i := 0) rfl
 have hr15s : _ * 8 ≤ _ := hr15.2
 refine st (ze (v := .pointer (some ⟨sb vc, so vc + no.toNat * 2, none⟩)) rfl ?_)
 refine zf ?_
 refine zd ?_
 refine zP ((fun TT pp0 => WF [fun vals wq => Sep G W (pp0 :: TT) wq, fun vals wq => ∃ (ix76 : Nat), (vals 6 = (.tuple #[.int .i64 ((ix76 : Nat) : Int), .bool (decide (arg ∈ ((l.getD no.toNat default).set)))] : Value)) ∧ (ix76 ≤ ((l.getD no.toNat default).set).length ∧ (∀ q, q < ix76 → ((l.getD no.toNat default).set).getD q 0 < arg) ∧ (∀ q, ix76 ≤ q → q < ((l.getD no.toNat default).set).length → arg ≤ ((l.getD no.toNat default).set).getD q 0)) ∧ Sep G W (pp0 :: TT) wq]) ((Star ((SetRows 3 sh1 l).set no.toNat Emp)) :: (RowE (α := CelS) own 42 vc sh1) :: (Blk b6 #[.int .i64 (fl.kind), .int .i64 (fl.policy), .bool (fl.floor), dm, vc, .int .i64 (no), .int .i64 (arg)] 101) :: Rs) (RowE (α := Int) own 3 ((sh1.getD no.toNat default).v) ((l.getD no.toNat default).set))) (AF [Vl 0 (.pointer (some ⟨sb vc, so vc + no.toNat * 2, none⟩)), Vl 1 (.pointer (some ⟨sb vc, so vc + no.toNat * 2, none⟩)), Vl 2 (.pointer (some ⟨sb vc, so vc + no.toNat * 2 + 1, none⟩)), Vl 3 ((sh1.getD no.toNat default).v), Vl 4 (.pointer (some ⟨b6, 6, none⟩)), Vl 5 (.int .i64 (arg)), fun _ => True, fun vals => ∀ (ix76 : Nat), vals 6 = (.tuple #[.int .i64 ((ix76 : Nat) : Int), .bool (decide (arg ∈ ((l.getD no.toNat default).set)))] : Value) → vals 7 = (.tuple #[.int .i64 ((ix76 : Nat) : Int), .bool (decide (arg ∈ ((l.getD no.toNat default).set)))] : Value), fun vals => ∀ (ix76 : Nat), vals 6 = (.tuple #[.int .i64 ((ix76 : Nat) : Int), .bool (decide (arg ∈ ((l.getD no.toNat default).set)))] : Value) → vals 8 = (.int .i64 ((ix76 : Nat) : Int) : Value), Vl 9 (.bool (decide (arg ∈ ((l.getD no.toNat default).set)))), fun vals => ∀ (ix76 : Nat), vals 6 = (.tuple #[.int .i64 ((ix76 : Nat) : Int), .bool (decide (arg ∈ ((l.getD no.toNat default).set)))] : Value) → vals 10 = (.int .i64 ((ix76 : Nat) : Int) : Value), Vl 11 (.bool (decide (arg ∈ ((l.getD no.toNat default).set))))]) [[], [0], [0, 1], [0, 1, 2], [], [4], [0, 1, 2, 3, 4, 5], [0, 1, 2, 3, 4, 5, 6], [0, 1, 2, 3, 4, 5, 6, 7], [0, 1, 2, 3, 4, 5, 6, 7], [0, 1, 2, 3, 4, 5, 6, 7, 8], [0, 1, 2, 3, 4, 5, 6, 7, 8, 9, 10]] [6] [(0, 0), (0, 0), (0, 0), (0, 0), (0, 0), (0, 0), (0, 0), (1, 1), (1, 1), (1, 1), (1, 1), (1, 1)] (by kernel_rfl) (by kernel_rfl) (by kernel_rfl) rfl (by kernel_rfl) (by kernel_rfl) (fun _ h1 h2 h3 h4 _ => hS14.same h1 h2 h3 h4) ?_ (yg ⟨dA, dA, dA, dA, dA, dA, dT, fun vals vals' hv h => fun ix76 hq0 => (hv 7 (.inl rfl)).trans (h ix76 ((hv 6 (.inr (by decide))).symm.trans hq0)), fun vals vals' hv h => fun ix76 hq0 => (hv 8 (.inl rfl)).trans (h ix76 ((hv 6 (.inr (by decide))).symm.trans hq0)), dA, fun vals vals' hv h => fun ix76 hq0 => (hv 10 (.inl rfl)).trans (h ix76 ((hv 6 (.inr (by decide))).symm.trans hq0)), dA, trivial⟩) ⟨?_, ?_, ?_, ?_, ?_, ?_, ?_, ?_, ?_, ?_, ?_, ?_, trivial⟩ ?_
 ·intro k vals vals' w hv h
  have e : ∀ j ∈ ([6] : List Nat), vals' j = vals j := hv
  match k, h with
  | 0, h => exact h
  | 1, h => exact (by simpa only [WF, List.getElem?_cons_zero, List.getElem?_cons_succ, e 6 (by decide)] using h)
  | _ + 2, _ => trivial
 ·intro k121 vals w122 h125 h126 hW124 hA123
  refine obl rfl ?_
  exact zb (v := .pointer (some ⟨sb vc, so vc + no.toNat * 2, none⟩)) rfl (fun vals' hv _ => ⟨rfl, hv⟩)
 ·intro k127 vals w128 h131 h132 hW130 hA129
  have e133 := hA129 0 (by decide)
  refine obl rfl ?_
  exact zL (b := sb vc) (o := so vc + no.toNat * 2) e133 (fun vals' hv _ => ⟨rfl, hv⟩)
 ·intro k134 vals w135 h138 h139 hW137 hA136
  have e140 := hA136 1 (by decide)
  refine obl rfl ?_
  exact xl e140 (fun vals' hv _ => ⟨rfl, hv⟩)
 ·intro k141 vals w142 h145 h146 hW144 hA143
  obtain rfl : k141 = 0 := Nat.le_antisymm h146 h145
  have hS147 : Sep _ _ _ _ := hW144
  have e148 := hA143 2 (by decide)
  refine obl rfl ?_
  have hi150 : no.toNat < sh1.length := (by first | omega | (simp only [lens]; omega))
  obtain ⟨_, _, hce149, rfl, hoke149⟩ := hS147.rowAt (i := 2) (j := no.toNat) rfl hi150
  rw [← zk default hi150] at hce149 hoke149
  exact zg (v := (sh1.getD no.toNat default).v) Tryd.isAgg40 e148 (hce149.get (j := 1) rfl) (fun vals' hv _ => ⟨rfl, hv⟩)
 ·intro k151 vals w152 h155 h156 hW154 hA153
  refine obl rfl ?_
  exact yT rfl (fun vals' hv _ => ⟨rfl, hv⟩)
 ·intro k157 vals w158 h161 h162 hW160 hA159
  obtain rfl : k157 = 0 := Nat.le_antisymm h162 h161
  have hS163 : Sep _ _ _ _ := hW160
  have e164 := hA159 4 (by decide)
  refine obl rfl ?_
  exact zg (v := .int .i64 (arg)) Tryd.isAgg3 e164 (zh (hS163.blk (i := 3) rfl) rfl) (fun vals' hv _ => ⟨rfl, hv⟩)
 ·intro k60 vals w61 h64 h65 hW63 hA62
  obtain rfl : k60 = 0 := Nat.le_antisymm h65 h64
  have hS66 : Sep _ _ _ _ := hW63
  have e67 := hA62 3 (by decide)
  have e68 := hA62 5 (by decide)
  refine obl rfl ?_
  obtain ⟨G69, hA71, hB72, hS73, hk74⟩ := hS66.lend
  have hrd75 := RowE.rd hA71
  have hrd75s : _ * 8 ≤ _ := hrd75.small
  refine (zv (f := 94) (vals := [(sh1.getD no.toNat default).v, .int .i64 (arg)]) (cap := []) rfl (xj ⟨e67, e68, trivial⟩) Tryd.call94 (ZK (l := (l.getD no.toNat default).set) (vl := (sh1.getD no.toNat default).v) (x := arg) hrd75 (by omega) hS73 (hasc)) ?_)
  rintro _ w78 ⟨ix76, rfl, hix77, hS79⟩
  have hS80 := hk74 _ _ hS79
  intro vals' hv hv'
  refine ⟨?_, trivial⟩
  show ∃ (ix76 : Nat), (vals' 6 = (.tuple #[.int .i64 ((ix76 : Nat) : Int), .bool (decide (arg ∈ ((l.getD no.toNat default).set)))] : Value)) ∧ (ix76 ≤ ((l.getD no.toNat default).set).length ∧ (∀ q, q < ix76 → ((l.getD no.toNat default).set).getD q 0 < arg) ∧ (∀ q, ix76 ≤ q → q < ((l.getD no.toNat default).set).length → arg ≤ ((l.getD no.toNat default).set).getD q 0)) ∧ Sep G W ((RowE (α := Int) own 3 ((sh1.getD no.toNat default).v) ((l.getD no.toNat default).set)) :: (Star ((SetRows 3 sh1 l).set no.toNat Emp)) :: (RowE (α := CelS) own 42 vc sh1) :: (Blk b6 #[.int .i64 (fl.kind), .int .i64 (fl.policy), .bool (fl.floor), dm, vc, .int .i64 (no), .int .i64 (arg)] 101) :: Rs) w78
  exact ⟨ix76, hv, hix77, hS80⟩
 ·intro k165 vals w166 h169 h170 hW168 hA167
  obtain rfl : k165 = 1 := Nat.le_antisymm h170 h169
  obtain ⟨ix76, he81, hix77, hS171⟩ := hW168
  refine obl rfl ?_
  refine zb (v := .tuple #[.int .i64 ((ix76 : Nat) : Int), .bool (decide (arg ∈ ((l.getD no.toNat default).set)))]) he81 (fun vals' hv hv' => ⟨rfl, ?_⟩)
  intro ix76q hq0
  rw [hv' 6 (by decide)] at hq0; cases he81.symm.trans hq0
  exact hv
 ·intro k172 vals w173 h176 h177 hW175 hA174
  obtain rfl : k172 = 1 := Nat.le_antisymm h177 h176
  obtain ⟨ix76, he81, hix77, hS178⟩ := hW175
  have e179 : vals 7 = (.tuple #[.int .i64 ((ix76 : Nat) : Int), .bool (decide (arg ∈ ((l.getD no.toNat default).set)))] : Value) := hA174 7 (by decide) ix76 he81
  refine obl rfl ?_
  refine zH (vs := [.int .i64 ((ix76 : Nat) : Int), .bool (decide (arg ∈ ((l.getD no.toNat default).set)))]) (i := 0) (v := .int .i64 ((ix76 : Nat) : Int)) e179 rfl (fun vals' hv hv' => ⟨rfl, ?_⟩)
  intro ix76q hq0
  rw [hv' 6 (by decide)] at hq0; cases he81.symm.trans hq0
  exact hv
 ·intro k180 vals w181 h184 h185 hW183 hA182
  obtain rfl : k180 = 1 := Nat.le_antisymm h185 h184
  obtain ⟨ix76, he81, hix77, hS186⟩ := hW183
  have e187 : vals 7 = (.tuple #[.int .i64 ((ix76 : Nat) : Int), .bool (decide (arg ∈ ((l.getD no.toNat default).set)))] : Value) := hA182 7 (by decide) ix76 he81
  refine obl rfl ?_
  exact zH (vs := [.int .i64 ((ix76 : Nat) : Int), .bool (decide (arg ∈ ((l.getD no.toNat default).set)))]) (i := 1) (v := .bool (decide (arg ∈ ((l.getD no.toNat default).set)))) e187 rfl (fun vals' hv _ => ⟨rfl, hv⟩)
 ·intro k188 vals w189 h192 h193 hW191 hA190
  obtain rfl : k188 = 1 := Nat.le_antisymm h193 h192
  obtain ⟨ix76, he81, hix77, hS194⟩ := hW191
  have e195 : vals 8 = (.int .i64 ((ix76 : Nat) : Int) : Value) := hA190 8 (by decide) ix76 he81
  refine obl rfl ?_
  refine ze (v := .int .i64 ((ix76 : Nat) : Int)) e195 (fun vals' hv hv' => ⟨rfl, ?_⟩)
  intro ix76q hq0
  rw [hv' 6 (by decide)] at hq0; cases he81.symm.trans hq0
  exact hv
 ·intro k196 vals w197 h200 h201 hW199 hA198
  obtain rfl : k196 = 1 := Nat.le_antisymm h201 h200
  obtain ⟨ix76, he81, hix77, hS202⟩ := hW199
  have e203 := hA198 9 (by decide)
  refine obl rfl ?_
  exact ze (v := .bool (decide (arg ∈ ((l.getD no.toNat default).set)))) e203 (fun vals' hv _ => ⟨rfl, hv⟩)
 intro vals w204 hW205 hA206
 obtain ⟨ix76, he81, hix77, hS207⟩ := hW205
 have e208 : vals 10 = (.int .i64 ((ix76 : Nat) : Int) : Value) := hA206 10 (by decide) ix76 he81
 have e209 := hA206 11 (by decide)
 refine yh (kv := [(0, .agg #[.int .i64 (fl.kind), .int .i64 (fl.policy), .bool (fl.floor), dm, vc, .int .i64 (no), .int .i64 (arg)]), (1, .pointer (some ⟨b6, 0, none⟩)), (5, .agg #[.int .i64 (fl.kind), .int .i64 (fl.policy), .bool (fl.floor), dm, vc, .int .i64 (no), .int .i64 (arg)]), (6, .pointer (some ⟨sb vc, so vc + no.toNat * 2, none⟩)), (2, .pointer (some ⟨sb vc, so vc + no.toNat * 2, none⟩)), (3, .int .i64 ((ix76 : Nat) : Int)), (4, .bool (decide (arg ∈ ((l.getD no.toNat default).set))))]) ⟨rfl, rfl, rfl, rfl, rfl, (by exact e208), (by exact e209), trivial⟩ (fun ρw204 => ?_)
 refine zf ?_
 refine zd ?_
 refine za (by kernel_rfl) (fun _ => ?_)
 refine st (zb (v := .bool (decide (arg ∈ ((l.getD no.toNat default).set)))) rfl ?_)
 refine zf ?_
 cases hc210 : decide (arg ∈ ((l.getD no.toNat default).set))
 ·skip
  have hc210 := of_decide_eq_false hc210
  refine zo rfl ?_
  refine zw ?_
  refine Wl Tryd.results84 ?_
  have hS211 : Sep G W ((CelW vc 42 3 l) :: (Blk b6 #[.int .i64 (fl.kind), .int .i64 (fl.policy), .bool (fl.floor), dm, vc, .int .i64 (no), .int .i64 (arg)] 101) :: Rs) w204 := CelW.close0 (i := no.toNat) hsh2.1 hsh2.2 (by omega) hS207
  have hS212 : Sep G W ((CelW vc 42 3 (l.set no.toNat (yD fl (yc l no) 4 arg))) :: (Blk b6 #[.int .i64 (fl.kind), .int .i64 (fl.policy), .bool (fl.floor), dm, vc, .int .i64 (no), .int .i64 (arg)] 101) :: Rs) w204 := by
    rw [Wj (show ¬ arg ∈ (yc l no).set from hc210), show l.set no.toNat (yc l no) = l from xq default (by omega)]
    exact hS211
  have hS213 : Sep G W ((CelW vc 42 3 (l.set no.toNat (yD fl (yc l no) 4 arg))) :: Rs) w204 := hS212.sel 2 [0] (Nat.le_add_left _ _) rfl rfl
  refine ⟨rfl, hS213⟩
 ·skip
  have hc210 := of_decide_eq_true hc210
  refine zq rfl ?_
  refine za (by kernel_rfl) (fun _ => ?_)
  refine st (zb (v := .pointer (some ⟨sb vc, so vc + no.toNat * 2, none⟩)) rfl ?_)
  refine st (zb (v := .pointer (some ⟨sb vc, so vc + no.toNat * 2, none⟩)) rfl ?_)
  refine st (zL (b := sb vc) (o := so vc + no.toNat * 2) rfl ?_)
  refine st (xl rfl ?_)
  have hi215 : no.toNat < sh1.length := (by first | omega | (simp only [lens]; omega))
  obtain ⟨_, _, hce214, rfl, hoke214⟩ := hS207.rowAt (i := 2) (j := no.toNat) rfl hi215
  rw [← zk default hi215] at hce214 hoke214
  refine st (zg (v := (sh1.getD no.toNat default).v) Tryd.isAgg40 rfl (hce214.get (j := 1) rfl) ?_)
  refine st (zb (v := .int .i64 ((ix76 : Nat) : Int)) rfl ?_)
  refine st (zb (v := .int .i64 ((ix76 : Nat) : Int)) rfl ?_)
  have hr216 : InR ((ix76 + 1 : Nat) : Int) := by first | omega | (simp only [lens]; omega)
  refine st (ye (r := ((ix76 + 1 : Nat) : Int)) (k := .i64) (a := ((ix76 : Nat) : Int)) (b := 1) rfl rfl (by rw [show (((ix76 : Nat) : Int) + 1 : Int) = ((ix76 + 1 : Nat) : Int) by first | omega | (simp only [lens]; omega)]; exact zQ hr216) ?_)
  refine st (zv (f := 96) (vals := [(sh1.getD no.toNat default).v, .int .i64 ((ix76 : Nat) : Int), .int .i64 ((ix76 + 1 : Nat) : Int)]) (cap := []) rfl rfl Tryd.call96 (Up (i := ix76) hS207 ((Ux (l := (l.getD no.toNat default).set) hasc hix77.1 hix77.2.1 hix77.2.2 hc210).1)) ?_)
  rintro v217 w218 ⟨_, rfl, hS219⟩
  have hr220 := hS219.row (i := 0) rfl
  have hr220s : _ * 8 ≤ _ := hr220.2
  refine st (zL (b := sb vc) (o := so vc + no.toNat * 2) rfl ?_)
  refine st (xl rfl ?_)
  have hS222 := hS219.mv2
  have hS223 : Sep G W ((RowE (α := CelS) own 42 vc sh1) :: Emp :: (RowE (α := Int) own 3 v217 (((l.getD no.toNat default).set).take ix76 ++ ((l.getD no.toNat default).set).drop (ix76 + 1))) :: (Star ((SetRows 3 sh1 l).set no.toNat Emp)) :: (Blk b6 #[.int .i64 (fl.kind), .int .i64 (fl.policy), .bool (fl.floor), dm, vc, .int .i64 (no), .int .i64 (arg)] 101) :: Rs) w218 := hS222.emp1
  refine stn (yY (α := CelS) (j := no.toNat) (o := 1) (u := v217) (us := [v217]) (x1 := (⟨(sh1.getD no.toNat default).n, v217⟩ : CelS)) hS223 Tryd.sizeOf40 (by first | omega | (simp only [lens]; omega)) rfl rfl (congrArg Array.toList (yL hr220.1.one)) (Nat.le_of_ble_eq_true rfl) (yj ⟨hr220.1.one, trivial⟩) (fun _ _ _ hel _ => (by rw [← zk default (by omega)] at hel; obtain ⟨rfl, hok⟩ := hel; exact ⟨rfl, ⟨hok.n, hr220.1.one⟩⟩)) ?_)
  intro w221 hS224
  have hr225 := hS224.row (i := 0) rfl
  have hr225s : _ * 32 ≤ _ := hr225.2
  refine zf ?_
  refine Wl Tryd.results84 ?_
  have hS226 : Sep G W ((RowE (α := Int) own 3 v217 (((l.getD no.toNat default).set).take ix76 ++ ((l.getD no.toNat default).set).drop (ix76 + 1))) :: (Star ((SetRows 3 sh1 l).set no.toNat Emp)) :: (RowE (α := CelS) own 42 vc (sh1.set no.toNat (⟨(sh1.getD no.toNat default).n, v217⟩ : CelS))) :: (Blk b6 #[.int .i64 (fl.kind), .int .i64 (fl.policy), .bool (fl.floor), dm, vc, .int .i64 (no), .int .i64 (arg)] 101) :: Rs) w221 := hS224.sel 4 [1, 2, 0, 3] (Nat.le_add_left _ _) rfl rfl
  have hS227 : Sep G W ((CelW vc 42 3 (l.set no.toNat (⟨(l.getD no.toNat default).n, (((l.getD no.toNat default).set).take ix76 ++ ((l.getD no.toNat default).set).drop (ix76 + 1))⟩ : Cel))) :: (Blk b6 #[.int .i64 (fl.kind), .int .i64 (fl.policy), .bool (fl.floor), dm, vc, .int .i64 (no), .int .i64 (arg)] 101) :: Rs) w221 := CelW.close (i := no.toNat) (s := (⟨(sh1.getD no.toNat default).n, v217⟩ : CelS)) (c := (⟨(l.getD no.toNat default).n, (((l.getD no.toNat default).set).take ix76 ++ ((l.getD no.toNat default).set).drop (ix76 + 1))⟩ : Cel)) hsh2.1 hsh2.2 (by omega) (hsh2.2 _ (by omega)) hS226
  have hS228 : Sep G W ((CelW vc 42 3 (l.set no.toNat (yD fl (yc l no) 4 arg))) :: (Blk b6 #[.int .i64 (fl.kind), .int .i64 (fl.policy), .bool (fl.floor), dm, vc, .int .i64 (no), .int .i64 (arg)] 101) :: Rs) w221 := by
    rw [VQ]; rw [(Ux (l := (l.getD no.toNat default).set) hasc hix77.1 hix77.2.1 hix77.2.2 hc210).2] at hS227
    exact hS227
  have hS229 : Sep G W ((CelW vc 42 3 (l.set no.toNat (yD fl (yc l no) 4 arg))) :: Rs) w221 := hS228.sel 2 [0] (Nat.le_add_left _ _) rfl rfl
  refine ⟨rfl, hS229⟩

theorem D_rdo {G : Nat → Prop} {W w : World} {Rs : List HP} {op : Int} {x : Rul} {fl : Fld} {dm vc : Value} {no arg : Int} {l : List Cel} (hS0 : Sep G W ((CelW vc 42 3 l) :: Rs) w) (hno : 0 ≤ no ∧ no < l.length) (hno0 : InR no) (harg : InR arg) (hx : xy xc op = some x) (hop : op = 1 ∨ op = 2 ∨ op = 3 ∨ op = 4 ∨ op = 5) (hdm : RdS W G dm fl.moves) (hak : ((op = 3 ∨ op = 4) → Asc (yc l no).set) ∧ (op = 5 → 0 ≤ arg ∧ arg < fl.moves.length)) (hfew : op = 3 → (yc l no).set.length ≤ 1000) : Ret Tryd.prog x.does [.agg #[.int .i64 (fl.kind), .int .i64 (fl.policy), .bool (fl.floor), dm, vc, .int .i64 (no), .int .i64 (arg)]] w (fun r w' => r = (.tuple #[] : Value) ∧ Sep G W ((CelW vc 42 3 (l.set no.toNat (yD fl (yc l no) op arg))) :: Rs) w') := by
  rcases hop with rfl | rfl | rfl | rfl | rfl <;> cases hx
  · exact UX hS0 hno hno0 harg
  · exact UV hS0 hno hno0 harg
  · exact UJ hS0 hno hno0 harg (hak.1 (.inl rfl)) (hfew rfl)
  · exact UM hS0 hno hno0 harg (hak.1 (.inr rfl))
  · exact Ug hS0 hno hno0 harg hdm (hak.2 rfl)
end Go.Proofs.YtlblilbmpdejgaaDoor
/- Steps of the proofs of this seat: part C5. -/
set_option maxRecDepth 8000
namespace Go.Proofs.YtlblilbmpdejgaaDoor
open Go.Proofs Go.RowKit

theorem SetRows.step {Ti : TypeId} {sh : List CelS} {l : List Cel} {k : Nat} (s : CelS) (hlen : sh.length = l.length) (hk : k < l.length) : SetRows Ti ((sh.set k s).take (k + 1)) (l.take (k + 1)) = SetRows Ti (sh.take k) (l.take k) ++ [RowE (α := Int) own Ti s.v (l.getD k default).set] := by
  have e1 : (sh.set k s).take (k + 1) = sh.take k ++ [s] := by
    rw [List.take_succ_eq_append_getElem (by rw [List.length_set]; omega), List.getElem_set_self, List.take_set_of_le (Nat.le_refl _)]
  have e2 : l.take (k + 1) = l.take k ++ [l.getD k default] := by rw [List.take_succ_eq_append_getElem hk, zk _ hk]
  rw [e1, e2]
  exact SetRows.snoc s _ (by rw [List.length_take, List.length_take]; omega)
theorem Ua {sh : List CelS} {l : List Cel} {k : Nat} {v : Value} (hlen : sh.length = l.length) (hn : ∀ i, i < l.length → (sh.getD i default).n = (l.getD i default).n) (hk : k < l.length) : ∀ i, i < l.length → ((sh.set k ⟨(sh.getD k default).n, v⟩).getD i default).n = (l.getD i default).n := by
  intro i hi
  have h := (We (s := ⟨(sh.getD k default).n, v⟩) (c := l.getD k default) hlen hn (hn k hk) hk).2 i (by rw [List.length_set]; exact hi)
  rwa [xq default hk] at h
theorem Ue {t : Typ} {c : List Cel} {f op arg : Int} (hf : f.toNat < c.length) (h : op ≠ 1 ∧ op ≠ 2 ∧ op ≠ 3 ∧ op ≠ 4 ∧ op ≠ 5) : doL t c f op arg = c := by
  unfold doL yD
  rw [if_neg h.1, if_neg h.2.1, if_neg h.2.2.1, if_neg h.2.2.2.1, if_neg h.2.2.2.2]
  exact xq default hf
theorem QQ {d : Option Tmp} {ty : TypeId} {pos : String} {af : Array Edge} {g : Option (Nat × Bool)} {σ : Env} {w : World} {K : Value → World → Prop} {x : Operand} {b o : Nat} (hx : ev σ x = .pointer (some ⟨b, o, none⟩)) (h : K (.pointer (some ⟨b, o + 1, none⟩)) w) : opV Tryd.prog ⟨d, .fieldAddr 96 x 1, ty, pos, af, g⟩ σ w K := zt Tryd.underlying96 rfl rfl (fun w => ⟨0, Tryd.sizeOf94 w⟩) hx h
set_option maxHeartbeats 4000000 in
theorem D_Do {G : Nat → Prop} {W w : World} {Rs : List HP} {t : Typ} {dt0 : Value} (hdt0 : RdS W G dt0 t.fields) (ot : t.Ok) {vc : Value} {c : List Cel} (hc : RdS W G vc c) {f : Int} (hf : InR f) {op : Int} (hop : InR op) {arg : Int} (harg : InR arg) (hS0 : Sep G W Rs w) (hak : XB t c f op arg) (hfew : op = 3 → (yc c f).set.length ≤ 1000) : Ret Tryd.prog 17 [.agg (t.cells dt0).toArray, vc, .int .i64 (f), .int .i64 (op), .int .i64 (arg)] w (fun r w' => ∃ (v : Value), r = (v : Value) ∧ Sep G W ((RowE (α := Cel) own 42 v (doL t c f op arg)) :: Rs) w') := by
 have hdt0s : _ * 48 ≤ _ := hdt0.small
 have hcs : _ * 32 ≤ _ := hc.small
 have hf0 := hak.1; have hf1 := hak.2.1; have hf2 := hak.2.2.1
 refine zr (args := [.agg (t.cells dt0).toArray, vc, .int .i64 (f), .int .i64 (op), .int .i64 (arg)]) Tryd.func17 rfl rfl ?_
 refine zd ?_
 refine za (by kernel_rfl) (fun _ => ?_)
 refine st (yb (v := .agg (t.cells dt0).toArray) rfl ?_)
 intro w3 b2 hn1
 have hS4 := hS0.new hn1
 refine st (ze (v := (.slice none 0 0)) rfl ?_)
 refine zf ?_
 refine zd ?_
 refine za (by kernel_rfl) (fun _ => ?_)
 refine st (zb (v := vc) rfl ?_)
 refine st (zv (f := 53) (vals := [vc]) (cap := []) rfl rfl Tryd.call53 (Yu (l := c) (vl := vc) hc hS4) ?_)
 rintro v5 w6 ⟨_, rfl, hS7⟩
 have hr8 := hS7.row (i := 0) rfl
 have hr8s : _ * 32 ≤ _ := hr8.2
 obtain ⟨sh9, hl10, hn11, hS12⟩ := hS7.celShare
 have hS12t : Sep G W ((RowE (α := CelS) own 42 v5 sh9) :: (Blk b2 (t.cells dt0).toArray 33) :: Rs) w6 := hS12
 have hr13 := hS12t.row (i := 0) rfl
 have hr13s : _ * 32 ≤ _ := hr13.2
 refine st (ze (v := v5) rfl ?_)
 refine zf ?_
 refine zd ?_
 refine zd ?_
 refine za (by kernel_rfl) (fun _ => ?_)
 refine st (zb (v := v5) rfl ?_)
 refine st (zJ (n := sh9.length) Tryd.underlying26 rfl hr13.1 ?_)
 refine st (zb (v := .int .i64 (0)) rfl ?_)
 refine zf ?_
 refine zx ?_
 have hS14 : Sep G W ((Star []) :: (RowE (α := CelS) own 42 v5 sh9) :: (Blk b2 (t.cells dt0).toArray 33) :: Rs) w6 := hS12t.nilStar
 have hS15 := hS14.mv1
 refine yn (fun mq σ wq => ∃ (k : Nat) (shk : List CelS) (ρ : Env), mq = c.length - k ∧ σ = yp ρ [(1, vc), (2, .int .i64 (f)), (3, .int .i64 (op)), (4, .int .i64 (arg)), (5, .pointer (some ⟨b2, 0, none⟩)), (10, (.slice none 0 0)), (11, v5), (18, .int .i64 ((sh9.length : Nat) : Int)), (19, .int .i64 ((k : Nat) : Int))] ∧ (k ≤ c.length) ∧ (shk.length = c.length) ∧ (∀ i, i < c.length → (shk.getD i default).n = (c.getD i default).n) ∧ Sep G W ((RowE (α := CelS) own 42 v5 shk) :: (Star (SetRows 3 (shk.take k) (c.take k))) :: (Blk b2 (t.cells dt0).toArray 33) :: Rs) wq) ⟨0, sh9, _, rfl, zp ⟨rfl, rfl, rfl, rfl, rfl, rfl, rfl, rfl, rfl, trivial⟩, Nat.zero_le _, hl10, (fun i h => (hn11 i h).1), hS15⟩ ?_
 rintro m17 σ18 w16 ⟨k, shk, ρl1, rfl, rfl, hkk, hshl, hshn, hS19⟩
 have hr20 := hS19.row (i := 0) rfl
 have hr20s : _ * 32 ≤ _ := hr20.2
 refine zd ?_
 refine za (by kernel_rfl) (fun _ => ?_)
 refine st (zN (k := .i64) (a := ((k : Nat) : Int)) (b := ((sh9.length : Nat) : Int)) rfl rfl ?_)
 refine zf ?_
 refine zd ?_
 cases hc21 : decide (((k : Nat) : Int) < ((sh9.length : Nat) : Int))
 ·skip
  have hc21 := of_decide_eq_false hc21
  refine zo rfl ?_
  refine ym ?_
  refine yd ?_
  refine zd ?_
  refine zd ?_
  refine za (by kernel_rfl) (fun _ => ?_)
  have hkl : k = c.length := by omega
  rw [hkl] at hS19
  rw [List.take_of_length_le (Nat.le_of_eq hshl), List.take_length] at hS19
  have hS22 : Sep G W ((CelW v5 42 3 c) :: (Blk b2 (t.cells dt0).toArray 33) :: Rs) w16 := CelW.mk hS19 ⟨hshl, hshn⟩
  refine st (zv (f := 52) (vals := []) (cap := []) rfl rfl Tryd.call52 (Va  hS22) ?_)
  rintro _ w24 ⟨m23, rfl, hS25⟩
  refine st (zb (v := .int .i64 (op)) rfl ?_)
  have hops : (op = 1 ∨ op = 2 ∨ op = 3 ∨ op = 4 ∨ op = 5) ∨ (op ≠ 1 ∧ op ≠ 2 ∧ op ≠ 3 ∧ op ≠ 4 ∧ op ≠ 5) := by omega
  rcases hops with hop | hop
  ·skip
   obtain ⟨rx, hrx⟩ := YO hop
   refine st (Zf (α := Rul) (a := rx) Tryd.underlying98 Tryd.underlying3 rfl rfl (hS25.map_ (i := 0) rfl) hrx ?_)
   rintro _ rfl
   refine st (zb (v := .tuple #[.agg #[.func (.func rx.may) #[] #[], .func (.func rx.does) #[] #[]], .bool true]) rfl ?_)
   refine st (zH (vs := [.agg #[.func (.func rx.may) #[] #[], .func (.func rx.does) #[] #[]], .bool true]) (i := 0) (v := .agg #[.func (.func rx.may) #[] #[], .func (.func rx.does) #[] #[]]) rfl rfl ?_)
   refine st (zH (vs := [.agg #[.func (.func rx.may) #[] #[], .func (.func rx.does) #[] #[]], .bool true]) (i := 1) (v := .bool true) rfl rfl ?_)
   refine st (zE Tryd.zeroValue96 ?_)
   intro w28 b27 hn26
   have hS29 := hS25.new hn26
   refine stn (zy (v := .agg #[.func (.func rx.may) #[] #[], .func (.func rx.does) #[] #[]]) (c' := #[.func (.func rx.may) #[] #[], .func (.func rx.does) #[] #[]]) Tryd.sizeOf96 rfl rfl (hS29.blk (i := 0) rfl) (yj ⟨rfl, rfl, trivial⟩) (Nat.le_of_ble_eq_true rfl) rfl ?_)
   intro w30 hp31
   have hS32 := hS29.pt0 hp31
   refine st (ze (v := .bool true) rfl ?_)
   refine zf ?_
   refine zd ?_
   refine za (by kernel_rfl) (fun _ => ?_)
   refine st (zb (v := .bool true) rfl ?_)
   refine zf ?_
   refine zq rfl ?_
   refine zP ((fun TT pp0 pp1 => WF [fun vals wq => Sep G W (pp0 :: pp1 :: (CelW v5 42 3 c) :: TT) wq, fun vals wq => (vals 11 = (.tuple #[] : Value)) ∧ Sep G W ((CelW v5 42 3 (c.set f.toNat (yD (t.fields.getD f.toNat default) (yc c f) op arg))) :: pp0 :: pp1 :: TT) wq]) ((Blk b2 (t.cells dt0).toArray 33) :: Rs) (Blk b27 #[.func (.func rx.may) #[] #[], .func (.func rx.does) #[] #[]] 96) (xB (α := Rul) m23 xc)) (AF [Vl 0 (.pointer (some ⟨b27, 1, none⟩)), Vl 1 (.func (.func rx.does) #[] #[]), Vl 2 (.pointer (some ⟨b2, 0, none⟩)), Vl 3 (dt0), Vl 4 (.int .i64 (f)), Vl 5 (.pointer (some ⟨sb dt0, so dt0 + f.toNat * 4, none⟩)), Vl 6 (.agg ((t.fields.getD f.toNat default).cells (zi W (sb dt0) (so dt0 + f.toNat * 4 + 3))).toArray), Vl 7 (v5), Vl 8 (.int .i64 (f)), Vl 9 (.int .i64 (arg)), Vl 10 (.agg #[.int .i64 ((t.fields.getD f.toNat default).kind), .int .i64 ((t.fields.getD f.toNat default).policy), .bool ((t.fields.getD f.toNat default).floor), (zi W (sb dt0) (so dt0 + f.toNat * 4 + 3)), v5, .int .i64 (f), .int .i64 (arg)]), fun _ => True]) [[], [0], [], [2], [], [2, 3, 4], [2, 3, 4, 5], [], [], [], [2, 3, 4, 5, 6, 7, 8, 9], [0, 1, 2, 3, 4, 5, 6, 7, 8, 9, 10]] [11] [(0, 0), (0, 0), (0, 0), (0, 0), (0, 0), (0, 0), (0, 0), (0, 0), (0, 0), (0, 0), (0, 0), (0, 0)] (by kernel_rfl) (by kernel_rfl) (by kernel_rfl) rfl (by kernel_rfl) (by kernel_rfl) (fun _ h1 h2 h3 h4 _ => hS32.same h1 h2 h3 h4) ?_ (yg ⟨dA, dA, dA, dA, dA, dA, dA, dA, dA, dA, dA, dT, trivial⟩) ⟨?_, ?_, ?_, ?_, ?_, ?_, ?_, ?_, ?_, ?_, ?_, ?_, trivial⟩ ?_
   ·intro k vals vals' w hv h
    have e : ∀ j ∈ ([11] : List Nat), vals' j = vals j := hv
    match k, h with
    | 0, h => exact h
    | 1, h => exact (by simpa only [WF, List.getElem?_cons_zero, List.getElem?_cons_succ, e 11 (by decide)] using h)
    | _ + 2, _ => trivial
   ·intro k135 vals w136 h139 h140 hW138 hA137
    refine obl rfl ?_
    exact QQ rfl (fun vals' hv _ => ⟨rfl, hv⟩)
   ·intro k141 vals w142 h145 h146 hW144 hA143
    obtain rfl : k141 = 0 := Nat.le_antisymm h146 h145
    have hS147 : Sep _ _ _ _ := hW144
    have e148 := hA143 0 (by decide)
    refine obl rfl ?_
    exact zg (v := .func (.func rx.does) #[] #[]) Tryd.isAgg94 e148 (zh (hS147.blk (i := 0) rfl) rfl) (fun vals' hv _ => ⟨rfl, hv⟩)
   ·intro k149 vals w150 h153 h154 hW152 hA151
    refine obl rfl ?_
    exact yC rfl (fun vals' hv _ => ⟨rfl, hv⟩)
   ·intro k155 vals w156 h159 h160 hW158 hA157
    obtain rfl : k155 = 0 := Nat.le_antisymm h160 h159
    have hS161 : Sep _ _ _ _ := hW158
    have e162 := hA157 2 (by decide)
    refine obl rfl ?_
    exact zg (v := dt0) Tryd.isAgg31 e162 (zh (hS161.blk (i := 3) rfl) rfl) (fun vals' hv _ => ⟨rfl, hv⟩)
   ·intro k163 vals w164 h167 h168 hW166 hA165
    refine obl rfl ?_
    exact zb (v := .int .i64 (f)) rfl (fun vals' hv _ => ⟨rfl, hv⟩)
   ·intro k169 vals w170 h173 h174 hW172 hA171
    obtain rfl : k169 = 0 := Nat.le_antisymm h174 h173
    have hS175 : Sep _ _ _ _ := hW172
    have e176 := hA171 3 (by decide)
    have e177 := hA171 4 (by decide)
    refine obl rfl ?_
    have hi178 : f.toNat < t.fields.length := (by have h1 := hak.1; have h2 := hak.2.1; have h3 := hak.2.2.1; omega)
    exact zG (k := 4) (i := f) Tryd.underlying31 Tryd.sizeOf79 e176 hdt0.sl e177 ⟨by omega, by omega⟩ (fun vals' hv _ => ⟨rfl, hv⟩)
   ·intro k179 vals w180 h183 h184 hW182 hA181
    obtain rfl : k179 = 0 := Nat.le_antisymm h184 h183
    have hS185 : Sep _ _ _ _ := hW182
    have e186 := hA181 5 (by decide)
    refine obl rfl ?_
    have hi188 : f.toNat < t.fields.length := (by have h1 := hak.1; have h2 := hak.2.1; have h3 := hak.2.2.1; omega)
    obtain ⟨hce187, hde187_0, hoke187⟩ := hdt0.fld hi188
    rw [← zk default hi188] at hce187 hde187_0 hoke187
    have hsm189 : ((t.fields.getD f.toNat default).moves).length * 32 ≤ 140737488355328 := hde187_0.small
    have hcw190 := hS185.cells hce187 (hdt0.foot (ne_of_lt hi188))
    exact zl (k := 4) Tryd.isAgg79 Tryd.sizeOf79 rfl e186 hcw190 (fun vals' hv _ => ⟨rfl, hv⟩)
   ·intro k191 vals w192 h195 h196 hW194 hA193
    refine obl rfl ?_
    exact zb (v := v5) rfl (fun vals' hv _ => ⟨rfl, hv⟩)
   ·intro k197 vals w198 h201 h202 hW200 hA199
    refine obl rfl ?_
    exact zb (v := .int .i64 (f)) rfl (fun vals' hv _ => ⟨rfl, hv⟩)
   ·intro k203 vals w204 h207 h208 hW206 hA205
    refine obl rfl ?_
    exact zb (v := .int .i64 (arg)) rfl (fun vals' hv _ => ⟨rfl, hv⟩)
   ·intro k209 vals w210 h213 h214 hW212 hA211
    have e215 := hA211 6 (by decide)
    have e216 := hA211 7 (by decide)
    have e217 := hA211 8 (by decide)
    have e218 := hA211 9 (by decide)
    refine obl rfl ?_
    exact zS (parts' := [(0, .agg ((t.fields.getD f.toNat default).cells (zi W (sb dt0) (so dt0 + f.toNat * 4 + 3))).toArray), (1, v5), (2, .int .i64 (f)), (3, .int .i64 (arg))]) (v := .agg #[.int .i64 ((t.fields.getD f.toNat default).kind), .int .i64 ((t.fields.getD f.toNat default).policy), .bool ((t.fields.getD f.toNat default).floor), (zi W (sb dt0) (so dt0 + f.toNat * 4 + 3)), v5, .int .i64 (f), .int .i64 (arg)]) (xE ⟨rfl, e215, rfl, e216, rfl, e217, rfl, e218, trivial⟩) (by obtain ⟨_, _, hv219, _⟩ := hr20.1; rw [show v5 = Value.slice _ _ _ from hv219]; simp [Instr.build, Instr.fill, Ev.cells, go_sem, Mv.cells, Fld.cells, Typ.cells, Prj.cells, Dcl.cells, Cel.cells, AskR.cells, Ask.cells]) (fun vals' hv _ => ⟨rfl, hv⟩)
   ·intro k118 vals w119 h122 h123 hW121 hA120
    obtain rfl : k118 = 0 := Nat.le_antisymm h123 h122
    have hS124 : Sep _ _ _ _ := hW121
    have e125 := hA120 1 (by decide)
    have e126 := hA120 10 (by decide)
    refine obl rfl ?_
    have hS127 := hS124.mv2
    have hi129 : f.toNat < t.fields.length := (by have h1 := hak.1; have h2 := hak.2.1; have h3 := hak.2.2.1; omega)
    obtain ⟨hce128, hde128_0, hoke128⟩ := hdt0.fld hi129
    rw [← zk default hi129] at hce128 hde128_0 hoke128
    have hsm130 : ((t.fields.getD f.toNat default).moves).length * 32 ≤ 140737488355328 := hde128_0.small
    have hcw131 := hS127.cells hce128 (hdt0.foot (ne_of_lt hi129))
    refine (zv (f := rx.does) (vals := [.agg #[.int .i64 ((t.fields.getD f.toNat default).kind), .int .i64 ((t.fields.getD f.toNat default).policy), .bool ((t.fields.getD f.toNat default).floor), (zi W (sb dt0) (so dt0 + f.toNat * 4 + 3)), v5, .int .i64 (f), .int .i64 (arg)]]) (cap := []) (show _ = (.func (.func rx.does) #[] #[] : Value) from e125) (xj ⟨e126, trivial⟩) (YW hop hrx).2 (D_rdo  hS127 (⟨hak.1, hak.2.2.1⟩) (hf) (harg) (hrx) (hop) (hde128_0) (⟨hak.2.2.2.1, fun h => ⟨(hak.2.2.2.2 h).1, (hak.2.2.2.2 h).2.1⟩⟩) (hfew)) ?_)
    rintro _ w132 ⟨rfl, hS133⟩
    intro vals' hv hv'
    refine ⟨?_, trivial⟩
    show (vals' 11 = (.tuple #[] : Value)) ∧ Sep G W ((CelW v5 42 3 (c.set f.toNat (yD (t.fields.getD f.toNat default) (yc c f) op arg))) :: (Blk b27 #[.func (.func rx.may) #[] #[], .func (.func rx.does) #[] #[]] 96) :: (xB (α := Rul) m23 xc) :: (Blk b2 (t.cells dt0).toArray 33) :: Rs) w132
    exact ⟨hv, hS133⟩
   intro vals w220 hW221 hA222
   obtain ⟨he134, hS223⟩ := hW221
   refine yh (kv := [(1, vc), (2, .int .i64 (f)), (3, .int .i64 (op)), (4, .int .i64 (arg)), (5, .pointer (some ⟨b2, 0, none⟩)), (10, (.slice none 0 0)), (11, v5), (18, .int .i64 ((sh9.length : Nat) : Int)), (19, .int .i64 ((k : Nat) : Int)), (20, .bool false), (34, .map (some m23)), (35, .int .i64 (op)), (36, .tuple #[.agg #[.func (.func rx.may) #[] #[], .func (.func rx.does) #[] #[]], .bool true]), (33, .tuple #[.agg #[.func (.func rx.may) #[] #[], .func (.func rx.does) #[] #[]], .bool true]), (37, .agg #[.func (.func rx.may) #[] #[], .func (.func rx.does) #[] #[]]), (38, .bool true), (13, .pointer (some ⟨b27, 0, none⟩)), (14, .bool true), (39, .bool true)]) ⟨rfl, rfl, rfl, rfl, rfl, rfl, rfl, rfl, rfl, rfl, rfl, rfl, rfl, rfl, rfl, rfl, rfl, rfl, rfl, trivial⟩ (fun ρw220 => ?_)
   refine zf ?_
   refine zd ?_
   refine za (by kernel_rfl) (fun _ => ?_)
   refine st (zb (v := v5) rfl ?_)
   refine st (ze (v := v5) rfl ?_)
   refine zf ?_
   refine zu ?_
   refine ya Tryd.results17 (show _ = (v5 : Value) from rfl) ?_
   have hS224 : Sep G W ((RowE (α := Cel) own 42 v5 (c.set f.toNat (yD (t.fields.getD f.toNat default) (yc c f) op arg))) :: (Blk b27 #[.func (.func rx.may) #[] #[], .func (.func rx.does) #[] #[]] 96) :: (xB (α := Rul) m23 xc) :: (Blk b2 (t.cells dt0).toArray 33) :: Rs) w220 := CelW.row hS223
   have hS225 : Sep G W ((RowE (α := Cel) own 42 v5 (doL t c f op arg)) :: (Blk b27 #[.func (.func rx.may) #[] #[], .func (.func rx.does) #[] #[]] 96) :: (xB (α := Rul) m23 xc) :: (Blk b2 (t.cells dt0).toArray 33) :: Rs) w220 := hS224
   have hS226 : Sep G W ((RowE (α := Cel) own 42 v5 (doL t c f op arg)) :: Rs) w220 := hS225.sel 4 [0] (Nat.le_add_left _ _) rfl rfl
   refine ⟨v5, rfl, hS226⟩
  ·skip
   refine st (Zh (α := Rul) (zc := [.nilFunc, .nilFunc]) Tryd.underlying98 Tryd.underlying3 Tryd.zeroValue96 rfl rfl (hS25.map_ (i := 0) rfl) (Yg hop) ?_)
   refine st (zb (v := .tuple #[.agg #[.nilFunc, .nilFunc], .bool false]) rfl ?_)
   refine st (zH (vs := [.agg #[.nilFunc, .nilFunc], .bool false]) (i := 0) (v := .agg #[.nilFunc, .nilFunc]) rfl rfl ?_)
   refine st (zH (vs := [.agg #[.nilFunc, .nilFunc], .bool false]) (i := 1) (v := .bool false) rfl rfl ?_)
   refine st (zE Tryd.zeroValue96 ?_)
   intro w229 b228 hn227
   have hS230 := hS25.new hn227
   refine stn (zy (v := .agg #[.nilFunc, .nilFunc]) (c' := #[.nilFunc, .nilFunc]) Tryd.sizeOf96 rfl rfl (hS230.blk (i := 0) rfl) (yj ⟨rfl, rfl, trivial⟩) (Nat.le_of_ble_eq_true rfl) rfl ?_)
   intro w231 hp232
   have hS233 := hS230.pt0 hp232
   refine st (ze (v := .bool false) rfl ?_)
   refine zf ?_
   refine zd ?_
   refine za (by kernel_rfl) (fun _ => ?_)
   refine st (zb (v := .bool false) rfl ?_)
   refine zf ?_
   refine zo rfl ?_
   refine zw ?_
   refine zd ?_
   refine za (by kernel_rfl) (fun _ => ?_)
   refine st (zb (v := v5) rfl ?_)
   refine st (ze (v := v5) rfl ?_)
   refine zf ?_
   refine zu ?_
   refine ya Tryd.results17 (show _ = (v5 : Value) from rfl) ?_
   have hS234 := hS233.mv2
   have hS235 : Sep G W ((RowE (α := Cel) own 42 v5 c) :: (Blk b228 #[.nilFunc, .nilFunc] 96) :: (xB (α := Rul) m23 xc) :: (Blk b2 (t.cells dt0).toArray 33) :: Rs) w231 := CelW.row hS234
   have hS236 : Sep G W ((RowE (α := Cel) own 42 v5 (doL t c f op arg)) :: (Blk b228 #[.nilFunc, .nilFunc] 96) :: (xB (α := Rul) m23 xc) :: (Blk b2 (t.cells dt0).toArray 33) :: Rs) w231 := by rw [Ue (by omega) hop]; exact hS235
   have hS237 : Sep G W ((RowE (α := Cel) own 42 v5 (doL t c f op arg)) :: Rs) w231 := hS236.sel 4 [0] (Nat.le_add_left _ _) rfl rfl
   refine ⟨v5, rfl, hS237⟩
 ·skip
  have hc21 := of_decide_eq_true hc21
  refine zq rfl ?_
  refine zw ?_
  refine zd ?_
  refine zx ?_
  refine zd ?_
  refine za (by kernel_rfl) (fun _ => ?_)
  refine st (zb (v := .int .i64 ((k : Nat) : Int)) rfl ?_)
  refine st (ze (v := .int .i64 ((k : Nat) : Int)) rfl ?_)
  refine zf ?_
  refine za (by kernel_rfl) (fun _ => ?_)
  refine st (zb (v := v5) rfl ?_)
  refine st (zb (v := .int .i64 ((k : Nat) : Int)) rfl ?_)
  refine st (zb (v := vc) rfl ?_)
  refine st (zb (v := .int .i64 ((k : Nat) : Int)) rfl ?_)
  have hi238 : k < c.length := (by have h1 := hak.1; have h2 := hak.2.1; have h3 := hak.2.2.1; omega)
  refine st (zm (k := 2) (i := k) Tryd.underlying26 Tryd.sizeOf42 rfl hc.sl rfl hi238 ?_)
  refine st (xl rfl ?_)
  have hi240 : k < c.length := (by have h1 := hak.1; have h2 := hak.2.1; have h3 := hak.2.2.1; omega)
  obtain ⟨hce239, hde239_0, hoke239⟩ := hc.cel hi240
  rw [← zk default hi240] at hce239 hde239_0 hoke239
  have hsm241 : ((c.getD k default).set).length * 8 ≤ 140737488355328 := hde239_0.small
  have hcw242 := hS19.cells hce239 (hc.foot (ne_of_lt hi240))
  refine st (zg (v := (zi W (sb vc) (so vc + k * 2 + 1))) Tryd.isAgg40 rfl (hcw242.get (j := 1) rfl) ?_)
  refine st (zv (f := 54) (vals := [(zi W (sb vc) (so vc + k * 2 + 1))]) (cap := []) rfl rfl Tryd.call54 (Zn (l := (c.getD k default).set) (vl := (zi W (sb vc) (so vc + k * 2 + 1))) hde239_0 hS19) ?_)
  rintro v243 w244 ⟨_, rfl, hS245⟩
  have hr246 := hS245.row (i := 0) rfl
  have hr246s : _ * 8 ≤ _ := hr246.2
  have hi247 : k < shk.length := (by have h1 := hak.1; have h2 := hak.2.1; have h3 := hak.2.2.1; omega)
  refine st (zm (k := 2) (i := k) Tryd.underlying26 Tryd.sizeOf42 rfl hr20.1 rfl hi247 ?_)
  refine st (xl rfl ?_)
  have hS249 := hS245.mv1
  have hS250 : Sep G W ((RowE (α := CelS) own 42 v5 shk) :: Emp :: (RowE (α := Int) own 3 v243 ((c.getD k default).set)) :: (Star (SetRows 3 (shk.take k) (c.take k))) :: (Blk b2 (t.cells dt0).toArray 33) :: Rs) w244 := hS249.emp1
  refine stn (yY (α := CelS) (j := k) (o := 1) (u := v243) (us := [v243]) (x1 := (⟨(shk.getD k default).n, v243⟩ : CelS)) hS250 Tryd.sizeOf40 (by first | omega | (simp only [lens]; omega)) rfl rfl (congrArg Array.toList (yL hr246.1.one)) (Nat.le_of_ble_eq_true rfl) (yj ⟨hr246.1.one, trivial⟩) (fun _ _ _ hel _ => (by rw [← zk default (by omega)] at hel; obtain ⟨rfl, hok⟩ := hel; exact ⟨rfl, ⟨hok.n, hr246.1.one⟩⟩)) ?_)
  intro w248 hS251
  have hr252 := hS251.row (i := 0) rfl
  have hr252s : _ * 32 ≤ _ := hr252.2
  refine zf ?_
  refine za (by kernel_rfl) (fun _ => ?_)
  have hr253 : InR ((k + 1 : Nat) : Int) := by first | omega | (simp only [lens]; omega)
  refine st (ye (r := ((k + 1 : Nat) : Int)) (k := .i64) (a := ((k : Nat) : Int)) (b := 1) rfl rfl (by rw [show (((k : Nat) : Int) + 1 : Int) = ((k + 1 : Nat) : Int) by first | omega | (simp only [lens]; omega)]; exact zQ hr253) ?_)
  refine st (zb (v := .int .i64 ((k + 1 : Nat) : Int)) rfl ?_)
  refine zf ?_
  have hS254 : Sep G W ((RowE (α := Int) own 3 v243 ((c.getD k default).set)) :: (Star (SetRows 3 (shk.take k) (c.take k))) :: (RowE (α := CelS) own 42 v5 (shk.set k (⟨(shk.getD k default).n, v243⟩ : CelS))) :: (Blk b2 (t.cells dt0).toArray 33) :: Rs) w248 := hS251.sel 4 [1, 2, 0, 3] (Nat.le_add_left _ _) rfl rfl
  have hS255 : Sep G W ((Star (SetRows 3 (shk.take k) (c.take k) ++ [(RowE (α := Int) own 3 v243 ((c.getD k default).set))])) :: (RowE (α := CelS) own 42 v5 (shk.set k (⟨(shk.getD k default).n, v243⟩ : CelS))) :: (Blk b2 (t.cells dt0).toArray 33) :: Rs) w248 := hS254.snocStar
  rw [← SetRows.step (Ti := 3) (⟨(shk.getD k default).n, v243⟩ : CelS) hshl (by omega)] at hS255
  have hS256 := hS255.mv1
  exact ⟨_, by omega, k + 1, shk.set k (⟨(shk.getD k default).n, v243⟩ : CelS), _, rfl, zp ⟨rfl, rfl, rfl, rfl, rfl, rfl, rfl, rfl, rfl, trivial⟩, by omega, by rw [List.length_set]; exact hshl, (Ua hshl hshn (by omega)), hS256⟩

end Go.Proofs.YtlblilbmpdejgaaDoor
