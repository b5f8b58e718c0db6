import Derived.Test.YtlblilbmpdejgaaDoorX12
set_option linter.unusedSimpArgs false
set_option linter.unusedVariables false
set_option linter.unusedSectionVars false
set_option linter.deprecated false
/- Steps of the proofs of this seat: part F14. -/
set_option maxRecDepth 8000
set_option maxHeartbeats 4000000
namespace Go.Proofs.YtlblilbmpdejgaaDoor
open Go.Proofs Go.RowKit

theorem UU {k : Int × Int × Int} {X Y : List Ent} {A B : Ent} (h : ¬ (A.ev.typ = B.ev.typ ∧ A.ev.agg = B.ev.agg)) : zD k (X ++ A :: B :: Y) = zD k (X ++ B :: A :: Y) := by
  unfold zD
  simp only [List.filter_append, List.filter_cons]
  cases ha : on3 k A <;> cases hb : on3 k B <;> simp
  unfold on3 at ha hb
  simp at ha hb
  exact absurd ⟨ha.2.1.trans hb.2.1.symm, ha.2.2.1.trans hb.2.2.1.symm⟩ h
theorem sw_on {k : Int × Int} {A B : Ent} (h : ¬ (A.ev.typ = B.ev.typ ∧ A.ev.agg = B.ev.agg)) (ha : onL k A = true) (hb : onL k B = true) : False := by
  unfold onL at ha hb
  simp at ha hb
  exact h ⟨ha.2.1.trans hb.2.1.symm, ha.2.2.trans hb.2.2.symm⟩
theorem QI {k : Int × Int} {X Y : List Ent} {A B : Ent} : zV k (X ++ A :: B :: Y) = zV k (X ++ B :: A :: Y) := by
  unfold zV
  simp only [List.filter_append, List.filter_cons]
  cases ha : onL k A <;> cases hb : onL k B <;> simp
theorem Wc {d : Dcl} {k : Int × Int} {X Y : List Ent} {A B : Ent} (h : ¬ (A.ev.typ = B.ev.typ ∧ A.ev.agg = B.ev.agg)) : yr d k (X ++ A :: B :: Y) = yr d k (X ++ B :: A :: Y) := by
  unfold yr
  simp only [List.foldl_append, List.foldl_cons]
  cases ha : onL k A <;> cases hb : onL k B <;> simp
  exact absurd (sw_on h ha hb) id
theorem Yl {d : Dcl} {L L' : List Ent} {e : Ev} (h1 : zD (e.typ, e.agg, e.field) L = zD (e.typ, e.agg, e.field) L') (h2 : yr d (e.typ, e.agg) L = yr d (e.typ, e.agg) L') : zS d L e = zS d L' e := by unfold zS yb; rw [h1, h2]
theorem XM {d : Dcl} {L : List Ent} {x : Ent} {e : Ev} (h : ¬ (x.ev.typ = e.typ ∧ x.ev.agg = e.agg)) : zS d (L ++ [x]) e = zS d L e := by
  refine Yl ?_ ?_
  · rw [Zn, if_neg]
    unfold on3; simp; intro _ h1 h2; exact absurd ⟨h1, h2⟩ h
  · rw [xp, if_neg]
    unfold onL; simp; intro _ h1 h2; exact absurd ⟨h1, h2⟩ h
theorem UO {d : Dcl} {P : List Ev} {a b : Ev} (h : ¬ (a.typ = b.typ ∧ a.agg = b.agg)) (Q : List Ev) : ∃ X Y A B, yI d (P ++ a :: b :: Q) = X ++ A :: B :: Y ∧ yI d (P ++ b :: a :: Q) = X ++ B :: A :: Y ∧ X.length = P.length ∧ ¬ (A.ev.typ = B.ev.typ ∧ A.ev.agg = B.ev.agg) := by
  induction Q using ZU with
  | h0 =>
    refine ⟨yI d P, [], zS d (yI d P) a, zS d (yI d P) b, ?_, ?_, xn _ _, h⟩
    · rw [show P ++ [a, b] = P ++ [a] ++ [b] by simp, yR, yR, XM h]; simp
    · rw [show P ++ [b, a] = P ++ [b] ++ [a] by simp, yR, yR, XM (fun h9 => h ⟨h9.1.symm, h9.2.symm⟩)]; simp
  | h1 Q e ih =>
    obtain ⟨X, Y, A, B, h1, h2, h3, h4⟩ := ih
    refine ⟨X, Y ++ [zS d (X ++ A :: B :: Y) e], A, B, ?_, ?_, h3, h4⟩
    · rw [show P ++ a :: b :: (Q ++ [e]) = (P ++ a :: b :: Q) ++ [e] by simp, yR, h1]; simp
    · rw [show P ++ b :: a :: (Q ++ [e]) = (P ++ b :: a :: Q) ++ [e] by simp, yR, h2, Yl (UU h4) (Wc h4)]; simp
theorem QC {α : Type} [Inhabited α] {l : List α} {p : Nat} (h : p + 1 < l.length) : ∃ P a b Q, l = P ++ a :: b :: Q ∧ P.length = p ∧ a = l.getD p default ∧ b = l.getD (p + 1) default := by
  refine ⟨l.take p, l[p], l[p + 1], l.drop (p + 2), ?_, by rw [List.length_take]; omega, by rw [List.getD_eq_getElem?_getD, List.getElem?_eq_getElem (by omega)]; rfl, by rw [List.getD_eq_getElem?_getD, List.getElem?_eq_getElem h]; rfl⟩
  rw [← List.drop_eq_getElem_cons h, ← List.drop_eq_getElem_cons (by omega), List.take_append_drop]
theorem sw_set {α : Type} {P Q : List α} {a b : α} : ((P ++ a :: b :: Q).set P.length b).set (P.length + 1) a = P ++ b :: a :: Q := by
  rw [List.set_append_right _ _ (Nat.le_refl _), Nat.sub_self, List.set_append_right _ _ (by omega), Nat.add_sub_cancel_left]; rfl
theorem WZ {α : Type} [Inhabited α] {P Q : List α} {a b : α} : (P ++ a :: b :: Q).getD P.length default = a ∧ (P ++ a :: b :: Q).getD (P.length + 1) default = b := by
  constructor
  · rw [List.getD_eq_getElem?_getD, List.getElem?_append_right (Nat.le_refl _), Nat.sub_self]; rfl
  · rw [List.getD_eq_getElem?_getD, List.getElem?_append_right (by omega), Nat.add_sub_cancel_left]; rfl
def swp {α : Type} [Inhabited α] (l : List α) (p : Nat) : List α := (l.set p (l.getD (p + 1) default)).set (p + 1) (l.getD p default)
theorem Vv {d : Dcl} {l : List Ev} {p : Nat} (h : p + 1 < l.length) (hu : ¬ ((l.getD p default).typ = (l.getD (p + 1) default).typ ∧ (l.getD p default).agg = (l.getD (p + 1) default).agg)) : yI d l = swp (yI d (swp l p)) p ∧ ∀ k, zY d k (yI d (swp l p)) = zY d k (yI d l) ∧ zi d (yI d (swp l p)) k = zi d (yI d l) k := by
  obtain ⟨P, a, b, Q, hl, hP, ha, hb⟩ := QC h
  rw [← ha, ← hb] at hu
  have hs : swp l p = P ++ b :: a :: Q := by unfold swp; rw [← ha, ← hb, hl, ← hP]; exact sw_set
  obtain ⟨X, Y, A, B, h1, h2, h3, h4⟩ := UO (d := d) (P := P) hu Q
  rw [hs, hl, h1, h2]
  refine ⟨?_, fun k => ?_⟩
  · unfold swp
    rw [← hP, ← h3, WZ.1, WZ.2]; exact sw_set.symm
  · have e1 : zV k (X ++ B :: A :: Y) = zV k (X ++ A :: B :: Y) := QI
    have e2 : yr d k (X ++ B :: A :: Y) = yr d k (X ++ A :: B :: Y) := (Wc h4).symm
    constructor
    · unfold zY stL; rw [e1, e2]
    · unfold zi; rw [e1, e2]
theorem Xc {α : Type} [Inhabited α] {l : List α} {p : Nat} : (swp l p).length = l.length := by unfold swp; rw [List.length_set, List.length_set]
set_option maxHeartbeats 8000000 in
theorem XZ {G : Nat → Prop} {W w : World} {Rs : List HP} {d : Dcl} {dd0 : Value} (hdd0 : RdS W G dd0 d.types) {dd1 : Value} (hdd1 : RdS W G dd1 d.projs) (od : d.Ok) {n : Int} (hn : InR n) {vl : Value} {l : List Ev} (hl : RdS W G vl l) {no : Int} (hno : InR no) (hKN : RdS W G (.slice (some ⟨0, 0, none⟩) 6 6) kindsL) (hS0 : Sep G W Rs w) : Ret Tryd.prog 9 [.agg (d.cells dd0 dd1).toArray, .int .i64 (n), vl, .int .i64 (no)] w (fun r w' => r = (.bool true : Value) ∧ Sep G W Rs w') := by
 have hdd0s : _ * 24 ≤ _ := hdd0.small
 have hdd1s : _ * 40 ≤ _ := hdd1.small
 have hls : _ * 96 ≤ _ := hl.small
 have hKNs : _ * 8 ≤ _ := hKN.small
 refine zr (args := [.agg (d.cells dd0 dd1).toArray, .int .i64 (n), vl, .int .i64 (no)]) Tryd.func9 rfl rfl ?_
 refine ze ?_
 refine za (by kernel_rfl) (fun _ => ?_)
 refine st (yd (v := .agg (d.cells dd0 dd1).toArray) rfl ?_)
 intro w3 b2 hn1
 have hS4 := hS0.new hn1
 refine st (zd (v := .bool false) rfl ?_)
 refine zg ?_
 refine ze ?_
 refine ze ?_
 refine za (by kernel_rfl) (fun _ => ?_)
 refine st (zn (k := 2) Tryd.isAgg25 Tryd.sizeOf25 rfl rfl (CellsAt.all (hS4.blk (i := 0) rfl)) ?_)
 refine st (zt (f := 20) (vals := [.agg (d.cells dd0 dd1).toArray]) (cap := []) rfl rfl Tryd.call20 (UA (d := d) hdd0 hdd1 od hS4) ?_)
 rintro _ w7 ⟨b5, rfl, hb6, hS8⟩
 refine st (yB (a := b5) rfl ?_)
 refine zg ?_
 cases hc9 : !b5
 ·skip
  try simp only [zm] at hc9
  have hdo := hb6 hc9
  refine zo rfl ?_
  refine zx ?_
  refine ze ?_
  refine za (by kernel_rfl) (fun _ => ?_)
  refine st (zb (v := .int .i64 (n)) rfl ?_)
  refine st (zt (f := 13) (vals := [.int .i64 (n), .int .i64 (64)]) (cap := []) rfl rfl Tryd.call13 (Ue (x := n) (n := 64) hn (by first | omega | (refine ⟨?_, ?_⟩ <;> omega)) hS8) ?_)
  rintro _ w12 ⟨q10, rfl, hq11, hS13⟩
  have hr14 : InR ((1 + q10 : Nat) : Int) := by first | omega | (simp only [zq]; omega)
  refine st (yg (r := ((1 + q10 : Nat) : Int)) (k := .i64) (a := 1) (b := ((q10 : Nat) : Int)) rfl rfl (by rw [show (1 + ((q10 : Nat) : Int) : Int) = ((1 + q10 : Nat) : Int) by first | omega | (simp only [zq]; omega)]; exact zO hr14) ?_)
  refine st (zb (v := vl) rfl ?_)
  refine st (zt (f := 22) (vals := [.int .i64 ((1 + q10 : Nat) : Int), vl]) (cap := []) rfl rfl Tryd.call22 (Uu (n := ((1 + q10 : Nat) : Int)) (l := l) (vl := vl) hr14 hl hS13) ?_)
  rintro v15 w19 ⟨_, l216, rfl, h6017, hft18, hS20⟩
  have hr21 := hS20.row (i := 0) rfl
  have hr21s : _ * 96 ≤ _ := hr21.2
  refine st (zd (v := v15) rfl ?_)
  refine zg ?_
  refine ze ?_
  refine ze ?_
  have h60 := h6017
  obtain ⟨G22, hA24, hB25, hS26, hk27⟩ := hS20.lend
  have hrd28 := RowE.rdB hA24 hB25
  have hrd28s : _ * 96 ≤ _ := hrd28.small
  refine za (by kernel_rfl) (fun _ => ?_)
  refine st (zb (v := v15) rfl ?_)
  refine st (zK (n := l216.length) Tryd.underlying47 rfl hrd28.sl ?_)
  refine st (zU (k := .i64) (a := ((l216.length : Nat) : Int)) (b := 2) rfl rfl ?_)
  refine zg ?_
  cases hc29 : decide (((l216.length : Nat) : Int) < 2)
  ·skip
   have hc29 := of_decide_eq_false hc29
   refine zo rfl ?_
   refine zx ?_
   refine ze ?_
   refine za (by kernel_rfl) (fun _ => ?_)
   refine st (zb (v := .int .i64 (no)) rfl ?_)
   refine st (zb (v := v15) rfl ?_)
   refine st (zK (n := l216.length) Tryd.underlying47 rfl hrd28.sl ?_)
   have hr30 : InR ((l216.length - 1 : Nat) : Int) := by first | omega | (simp only [zq]; omega)
   refine st (YC (r := ((l216.length - 1 : Nat) : Int)) (k := .i64) (a := ((l216.length : Nat) : Int)) (b := 1) rfl rfl (by rw [show (((l216.length : Nat) : Int) - 1 : Int) = ((l216.length - 1 : Nat) : Int) by first | omega | (simp only [zq]; omega)]; exact zO hr30) ?_)
   refine st (zt (f := 13) (vals := [.int .i64 (no), .int .i64 ((l216.length - 1 : Nat) : Int)]) (cap := []) rfl rfl Tryd.call13 (Ue (x := no) (n := l216.length - 1) hno (by first | omega | (refine ⟨?_, ?_⟩ <;> omega)) hS26) ?_)
   rintro _ w33 ⟨q31, rfl, hq32, hS34⟩
   refine st (zd (v := .int .i64 ((q31 : Nat) : Int)) rfl ?_)
   refine zg ?_
   refine ze ?_
   refine ze ?_
   refine zT (WF [fun vals wq => Sep G22 w19 ((Blk b2 (d.cells dd0 dd1).toArray 25) :: Rs) wq]) (AF [Vl 0 (v15), Vl 1 (.int .i64 ((q31 : Nat) : Int)), Vl 2 (.pointer (some ⟨sb v15, so v15 + q31 * 10, none⟩)), Vl 3 (.pointer (some ⟨sb v15, so v15 + q31 * 10 + 4, none⟩)), Vl 4 (.int .i64 ((l216.getD q31 default).typ)), Vl 5 (v15), Vl 6 (.int .i64 ((q31 : Nat) : Int)), Vl 7 (.int .i64 ((q31 + 1 : Nat) : Int)), Vl 8 (.pointer (some ⟨sb v15, so v15 + (q31 + 1) * 10, none⟩)), Vl 9 (.pointer (some ⟨sb v15, so v15 + (q31 + 1) * 10 + 4, none⟩)), Vl 10 (.int .i64 ((l216.getD (q31 + 1) default).typ)), Vl 11 (.bool (decide (((l216.getD q31 default).typ) = ((l216.getD (q31 + 1) default).typ)))), Vl 12 (.bool (decide (((l216.getD q31 default).typ) = ((l216.getD (q31 + 1) default).typ)))), Vl 13 (if (decide (((l216.getD q31 default).typ) = ((l216.getD (q31 + 1) default).typ))) = true then v15 else undef), Vl 14 (if (decide (((l216.getD q31 default).typ) = ((l216.getD (q31 + 1) default).typ))) = true then .int .i64 ((q31 : Nat) : Int) else undef), Vl 15 (if (decide (((l216.getD q31 default).typ) = ((l216.getD (q31 + 1) default).typ))) = true then .pointer (some ⟨sb v15, so v15 + q31 * 10, none⟩) else undef), Vl 16 (if (decide (((l216.getD q31 default).typ) = ((l216.getD (q31 + 1) default).typ))) = true then .pointer (some ⟨sb v15, so v15 + q31 * 10 + 5, none⟩) else undef), Vl 17 (if (decide (((l216.getD q31 default).typ) = ((l216.getD (q31 + 1) default).typ))) = true then .int .i64 ((l216.getD q31 default).agg) else undef), Vl 18 (if (decide (((l216.getD q31 default).typ) = ((l216.getD (q31 + 1) default).typ))) = true then v15 else undef), Vl 19 (if (decide (((l216.getD q31 default).typ) = ((l216.getD (q31 + 1) default).typ))) = true then .int .i64 ((q31 : Nat) : Int) else undef), Vl 20 (if (decide (((l216.getD q31 default).typ) = ((l216.getD (q31 + 1) default).typ))) = true then .int .i64 ((q31 + 1 : Nat) : Int) else undef), Vl 21 (if (decide (((l216.getD q31 default).typ) = ((l216.getD (q31 + 1) default).typ))) = true then .pointer (some ⟨sb v15, so v15 + (q31 + 1) * 10, none⟩) else undef), Vl 22 (if (decide (((l216.getD q31 default).typ) = ((l216.getD (q31 + 1) default).typ))) = true then .pointer (some ⟨sb v15, so v15 + (q31 + 1) * 10 + 5, none⟩) else undef), Vl 23 (if (decide (((l216.getD q31 default).typ) = ((l216.getD (q31 + 1) default).typ))) = true then .int .i64 ((l216.getD (q31 + 1) default).agg) else undef), Vl 24 (if (decide (((l216.getD q31 default).typ) = ((l216.getD (q31 + 1) default).typ))) = true then .bool (decide (((l216.getD q31 default).agg) = ((l216.getD (q31 + 1) default).agg))) else undef), Vl 25 (.bool ((decide (((l216.getD q31 default).typ) = ((l216.getD (q31 + 1) default).typ))) && (decide (((l216.getD q31 default).agg) = ((l216.getD (q31 + 1) default).agg)))))]) [[], [], [0, 1], [0, 1, 2], [0, 1, 2, 3], [], [], [6], [5, 6, 7], [5, 6, 7, 8], [5, 6, 7, 8, 9], [0, 1, 2, 3, 4, 5, 6, 7, 8, 9, 10], [0, 1, 2, 3, 4, 5, 6, 7, 8, 9, 10, 11], [0, 1, 2, 3, 4, 5, 6, 7, 8, 9, 10, 11, 12], [0, 1, 2, 3, 4, 5, 6, 7, 8, 9, 10, 11, 12], [0, 1, 2, 3, 4, 5, 6, 7, 8, 9, 10, 11, 12, 13, 14], [0, 1, 2, 3, 4, 5, 6, 7, 8, 9, 10, 11, 12, 13, 14, 15], [0, 1, 2, 3, 4, 5, 6, 7, 8, 9, 10, 11, 12, 13, 14, 15, 16], [0, 1, 2, 3, 4, 5, 6, 7, 8, 9, 10, 11, 12], [0, 1, 2, 3, 4, 5, 6, 7, 8, 9, 10, 11, 12], [0, 1, 2, 3, 4, 5, 6, 7, 8, 9, 10, 11, 12, 19], [0, 1, 2, 3, 4, 5, 6, 7, 8, 9, 10, 11, 12, 18, 19, 20], [0, 1, 2, 3, 4, 5, 6, 7, 8, 9, 10, 11, 12, 18, 19, 20, 21], [0, 1, 2, 3, 4, 5, 6, 7, 8, 9, 10, 11, 12, 18, 19, 20, 21, 22], [0, 1, 2, 3, 4, 5, 6, 7, 8, 9, 10, 11, 12, 13, 14, 15, 16, 17, 18, 19, 20, 21, 22, 23], [0, 1, 2, 3, 4, 5, 6, 7, 8, 9, 10, 11, 12, 13, 14, 15, 16, 17, 18, 19, 20, 21, 22, 23, 24]] [] [(0, 0), (0, 0), (0, 0), (0, 0), (0, 0), (0, 0), (0, 0), (0, 0), (0, 0), (0, 0), (0, 0), (0, 0), (0, 0), (0, 0), (0, 0), (0, 0), (0, 0), (0, 0), (0, 0), (0, 0), (0, 0), (0, 0), (0, 0), (0, 0), (0, 0), (0, 0)] (by kernel_rfl) (by kernel_rfl) (by kernel_rfl) rfl (by kernel_rfl) (by kernel_rfl) (fun _ h1 h2 h3 h4 _ => hS34.same h1 h2 h3 h4) ?_ (yj ⟨dA, dA, dA, dA, dA, dA, dA, dA, dA, dA, dA, dA, dA, dA, dA, dA, dA, dA, dA, dA, dA, dA, dA, dA, dA, dA, trivial⟩) ⟨?_, ?_, ?_, ?_, ?_, ?_, ?_, ?_, ?_, ?_, ?_, ?_, ?_, ?_, ?_, ?_, ?_, ?_, ?_, ?_, ?_, ?_, ?_, ?_, ?_, ?_, trivial⟩ ?_
   ·intro k vals vals' w hv h
    match k, h with
    | 0, h => exact h
    | _ + 1, _ => trivial
   ·intro k286 vals w287 h290 h291 hW289 hA288
    refine obl rfl ?_
    exact zb (v := v15) rfl (fun vals' hv _ => ⟨rfl, hv⟩)
   ·intro k292 vals w293 h296 h297 hW295 hA294
    refine obl rfl ?_
    exact zb (v := .int .i64 ((q31 : Nat) : Int)) rfl (fun vals' hv _ => ⟨rfl, hv⟩)
   ·intro k298 vals w299 h302 h303 hW301 hA300
    obtain rfl : k298 = 0 := Nat.le_antisymm h303 h302
    have hS304 : Sep _ _ _ _ := hW301
    have e305 := hA300 0 (by decide)
    have e306 := hA300 1 (by decide)
    refine obl rfl ?_
    have hi307 : q31 < l216.length := (by first | omega | (simp only [zq]; omega))
    exact zj (k := 10) (i := q31) Tryd.underlying47 Tryd.sizeOf59 e305 hrd28.sl e306 hi307 (fun vals' hv _ => ⟨rfl, hv⟩)
   ·intro k308 vals w309 h312 h313 hW311 hA310
    have e314 := hA310 2 (by decide)
    refine obl rfl ?_
    exact xw e314 (fun vals' hv _ => ⟨rfl, hv⟩)
   ·intro k315 vals w316 h319 h320 hW318 hA317
    obtain rfl : k315 = 0 := Nat.le_antisymm h320 h319
    have hS321 : Sep _ _ _ _ := hW318
    have e322 := hA317 3 (by decide)
    refine obl rfl ?_
    have hi324 : q31 < l216.length := (by first | omega | (simp only [zq]; omega))
    obtain ⟨hce323, hde323_0, hoke323⟩ := hrd28.ev hi324
    rw [← zl default hi324] at hce323 hde323_0 hoke323
    have hsm325 : ((l216.getD q31 default).deps).length * 8 ≤ 140737488355328 := hde323_0.small
    have hcw326 := hS321.cells hce323 (hrd28.foot (ne_of_lt hi324))
    exact zf (v := .int .i64 ((l216.getD q31 default).typ)) Tryd.isAgg3 e322 (hcw326.get (j := 4) rfl) (fun vals' hv _ => ⟨rfl, hv⟩)
   ·intro k327 vals w328 h331 h332 hW330 hA329
    refine obl rfl ?_
    exact zb (v := v15) rfl (fun vals' hv _ => ⟨rfl, hv⟩)
   ·intro k333 vals w334 h337 h338 hW336 hA335
    refine obl rfl ?_
    exact zb (v := .int .i64 ((q31 : Nat) : Int)) rfl (fun vals' hv _ => ⟨rfl, hv⟩)
   ·intro k339 vals w340 h343 h344 hW342 hA341
    obtain rfl : k339 = 0 := Nat.le_antisymm h344 h343
    have hS345 : Sep _ _ _ _ := hW342
    have e346 := hA341 6 (by decide)
    refine obl rfl ?_
    have hr347 : InR ((q31 + 1 : Nat) : Int) := by first | omega | (simp only [zq]; omega)
    exact yg (r := ((q31 + 1 : Nat) : Int)) (k := .i64) (a := ((q31 : Nat) : Int)) (b := 1) e346 rfl (by rw [show (((q31 : Nat) : Int) + 1 : Int) = ((q31 + 1 : Nat) : Int) by first | omega | (simp only [zq]; omega)]; exact zO hr347) (fun vals' hv _ => ⟨rfl, hv⟩)
   ·intro k348 vals w349 h352 h353 hW351 hA350
    obtain rfl : k348 = 0 := Nat.le_antisymm h353 h352
    have hS354 : Sep _ _ _ _ := hW351
    have e355 := hA350 5 (by decide)
    have e356 := hA350 7 (by decide)
    refine obl rfl ?_
    have hi357 : q31 + 1 < l216.length := (by first | omega | (simp only [zq]; omega))
    exact zj (k := 10) (i := q31 + 1) Tryd.underlying47 Tryd.sizeOf59 e355 hrd28.sl e356 hi357 (fun vals' hv _ => ⟨rfl, hv⟩)
   ·intro k358 vals w359 h362 h363 hW361 hA360
    have e364 := hA360 8 (by decide)
    refine obl rfl ?_
    exact xw e364 (fun vals' hv _ => ⟨rfl, hv⟩)
   ·intro k365 vals w366 h369 h370 hW368 hA367
    obtain rfl : k365 = 0 := Nat.le_antisymm h370 h369
    have hS371 : Sep _ _ _ _ := hW368
    have e372 := hA367 9 (by decide)
    refine obl rfl ?_
    have hi374 : q31 + 1 < l216.length := (by first | omega | (simp only [zq]; omega))
    obtain ⟨hce373, hde373_0, hoke373⟩ := hrd28.ev hi374
    rw [← zl default hi374] at hce373 hde373_0 hoke373
    have hsm375 : ((l216.getD (q31 + 1) default).deps).length * 8 ≤ 140737488355328 := hde373_0.small
    have hcw376 := hS371.cells hce373 (hrd28.foot (ne_of_lt hi374))
    exact zf (v := .int .i64 ((l216.getD (q31 + 1) default).typ)) Tryd.isAgg3 e372 (hcw376.get (j := 4) rfl) (fun vals' hv _ => ⟨rfl, hv⟩)
   ·intro k377 vals w378 h381 h382 hW380 hA379
    obtain rfl : k377 = 0 := Nat.le_antisymm h382 h381
    have hS383 : Sep _ _ _ _ := hW380
    have e384 := hA379 4 (by decide)
    have e385 := hA379 10 (by decide)
    refine obl rfl ?_
    exact yh (k := .i64) (a := (l216.getD q31 default).typ) (b := (l216.getD (q31 + 1) default).typ) e384 e385 (fun vals' hv _ => ⟨rfl, hv⟩)
   ·intro k386 vals w387 h390 h391 hW389 hA388
    have e392 := hA388 11 (by decide)
    refine obl rfl ?_
    exact zb (v := .bool (decide (((l216.getD q31 default).typ) = ((l216.getD (q31 + 1) default).typ)))) e392 (fun vals' hv _ => ⟨rfl, hv⟩)
   ·intro k393 vals w394 h397 h398 hW396 hA395
    have e399 := hA395 12 (by decide)
    refine zy rfl rfl e399 (fun hb400 => ?_) (fun hb400 => fun vals' hv _ => ⟨trivial, hv.trans (if_neg hb400).symm⟩)
    have hl401 := hb400
    have hl401 := of_decide_eq_true hl401
    exact zb (v := v15) rfl (fun vals' hv _ => ⟨rfl, hv.trans (if_pos hb400).symm⟩)
   ·intro k402 vals w403 h406 h407 hW405 hA404
    have e408 := hA404 12 (by decide)
    refine zy rfl rfl e408 (fun hb409 => ?_) (fun hb409 => fun vals' hv _ => ⟨trivial, hv.trans (if_neg hb409).symm⟩)
    have hl410 := hb409
    have hl410 := of_decide_eq_true hl410
    exact zb (v := .int .i64 ((q31 : Nat) : Int)) rfl (fun vals' hv _ => ⟨rfl, hv.trans (if_pos hb409).symm⟩)
   ·intro k411 vals w412 h415 h416 hW414 hA413
    obtain rfl : k411 = 0 := Nat.le_antisymm h416 h415
    have hS417 : Sep _ _ _ _ := hW414
    have e418 := hA413 12 (by decide)
    have e419 : vals 13 = (if (decide (((l216.getD q31 default).typ) = ((l216.getD (q31 + 1) default).typ))) = true then (v15 : Value) else undef) := hA413 13 (by decide)
    have e420 : vals 14 = (if (decide (((l216.getD q31 default).typ) = ((l216.getD (q31 + 1) default).typ))) = true then (.int .i64 ((q31 : Nat) : Int) : Value) else undef) := hA413 14 (by decide)
    refine zy rfl rfl e418 (fun hb421 => ?_) (fun hb421 => fun vals' hv _ => ⟨trivial, hv.trans (if_neg hb421).symm⟩)
    have hl422 := hb421
    have hl422 := of_decide_eq_true hl422
    have hi423 : q31 < l216.length := (by first | omega | (simp only [zq]; omega))
    exact zj (k := 10) (i := q31) Tryd.underlying47 Tryd.sizeOf59 (show _ = (v15 : Value) from (Eq.trans e419 (if_pos hb421))) hrd28.sl (show _ = (.int .i64 ((q31 : Nat) : Int) : Value) from (Eq.trans e420 (if_pos hb421))) hi423 (fun vals' hv _ => ⟨rfl, hv.trans (if_pos hb421).symm⟩)
   ·intro k424 vals w425 h428 h429 hW427 hA426
    have e430 := hA426 12 (by decide)
    have e431 : vals 15 = (if (decide (((l216.getD q31 default).typ) = ((l216.getD (q31 + 1) default).typ))) = true then (.pointer (some ⟨sb v15, so v15 + q31 * 10, none⟩) : Value) else undef) := hA426 15 (by decide)
    refine zy rfl rfl e430 (fun hb432 => ?_) (fun hb432 => fun vals' hv _ => ⟨trivial, hv.trans (if_neg hb432).symm⟩)
    have hl433 := hb432
    have hl433 := of_decide_eq_true hl433
    exact xT (show _ = (.pointer (some ⟨sb v15, so v15 + q31 * 10, none⟩) : Value) from (Eq.trans e431 (if_pos hb432))) (fun vals' hv _ => ⟨rfl, hv.trans (if_pos hb432).symm⟩)
   ·intro k434 vals w435 h438 h439 hW437 hA436
    obtain rfl : k434 = 0 := Nat.le_antisymm h439 h438
    have hS440 : Sep _ _ _ _ := hW437
    have e441 := hA436 12 (by decide)
    have e442 : vals 16 = (if (decide (((l216.getD q31 default).typ) = ((l216.getD (q31 + 1) default).typ))) = true then (.pointer (some ⟨sb v15, so v15 + q31 * 10 + 5, none⟩) : Value) else undef) := hA436 16 (by decide)
    refine zy rfl rfl e441 (fun hb443 => ?_) (fun hb443 => fun vals' hv _ => ⟨trivial, hv.trans (if_neg hb443).symm⟩)
    have hl444 := hb443
    have hl444 := of_decide_eq_true hl444
    have hi446 : q31 < l216.length := (by first | omega | (simp only [zq]; omega))
    obtain ⟨hce445, hde445_0, hoke445⟩ := hrd28.ev hi446
    rw [← zl default hi446] at hce445 hde445_0 hoke445
    have hsm447 : ((l216.getD q31 default).deps).length * 8 ≤ 140737488355328 := hde445_0.small
    have hcw448 := hS440.cells hce445 (hrd28.foot (ne_of_lt hi446))
    exact zf (v := .int .i64 ((l216.getD q31 default).agg)) Tryd.isAgg3 (show _ = (.pointer (some ⟨sb v15, so v15 + q31 * 10 + 5, none⟩) : Value) from (Eq.trans e442 (if_pos hb443))) (hcw448.get (j := 5) rfl) (fun vals' hv _ => ⟨rfl, hv.trans (if_pos hb443).symm⟩)
   ·intro k449 vals w450 h453 h454 hW452 hA451
    have e455 := hA451 12 (by decide)
    refine zy rfl rfl e455 (fun hb456 => ?_) (fun hb456 => fun vals' hv _ => ⟨trivial, hv.trans (if_neg hb456).symm⟩)
    have hl457 := hb456
    have hl457 := of_decide_eq_true hl457
    exact zb (v := v15) rfl (fun vals' hv _ => ⟨rfl, hv.trans (if_pos hb456).symm⟩)
   ·intro k458 vals w459 h462 h463 hW461 hA460
    have e464 := hA460 12 (by decide)
    refine zy rfl rfl e464 (fun hb465 => ?_) (fun hb465 => fun vals' hv _ => ⟨trivial, hv.trans (if_neg hb465).symm⟩)
    have hl466 := hb465
    have hl466 := of_decide_eq_true hl466
    exact zb (v := .int .i64 ((q31 : Nat) : Int)) rfl (fun vals' hv _ => ⟨rfl, hv.trans (if_pos hb465).symm⟩)
   ·intro k467 vals w468 h471 h472 hW470 hA469
    obtain rfl : k467 = 0 := Nat.le_antisymm h472 h471
    have hS473 : Sep _ _ _ _ := hW470
    have e474 := hA469 12 (by decide)
    have e475 : vals 19 = (if (decide (((l216.getD q31 default).typ) = ((l216.getD (q31 + 1) default).typ))) = true then (.int .i64 ((q31 : Nat) : Int) : Value) else undef) := hA469 19 (by decide)
    refine zy rfl rfl e474 (fun hb476 => ?_) (fun hb476 => fun vals' hv _ => ⟨trivial, hv.trans (if_neg hb476).symm⟩)
    have hl477 := hb476
    have hl477 := of_decide_eq_true hl477
    have hr478 : InR ((q31 + 1 : Nat) : Int) := by first | omega | (simp only [zq]; omega)
    exact yg (r := ((q31 + 1 : Nat) : Int)) (k := .i64) (a := ((q31 : Nat) : Int)) (b := 1) (show _ = (.int .i64 ((q31 : Nat) : Int) : Value) from (Eq.trans e475 (if_pos hb476))) rfl (by rw [show (((q31 : Nat) : Int) + 1 : Int) = ((q31 + 1 : Nat) : Int) by first | omega | (simp only [zq]; omega)]; exact zO hr478) (fun vals' hv _ => ⟨rfl, hv.trans (if_pos hb476).symm⟩)
   ·intro k479 vals w480 h483 h484 hW482 hA481
    obtain rfl : k479 = 0 := Nat.le_antisymm h484 h483
    have hS485 : Sep _ _ _ _ := hW482
    have e486 := hA481 12 (by decide)
    have e487 : vals 18 = (if (decide (((l216.getD q31 default).typ) = ((l216.getD (q31 + 1) default).typ))) = true then (v15 : Value) else undef) := hA481 18 (by decide)
    have e488 : vals 20 = (if (decide (((l216.getD q31 default).typ) = ((l216.getD (q31 + 1) default).typ))) = true then (.int .i64 ((q31 + 1 : Nat) : Int) : Value) else undef) := hA481 20 (by decide)
    refine zy rfl rfl e486 (fun hb489 => ?_) (fun hb489 => fun vals' hv _ => ⟨trivial, hv.trans (if_neg hb489).symm⟩)
    have hl490 := hb489
    have hl490 := of_decide_eq_true hl490
    have hi491 : q31 + 1 < l216.length := (by first | omega | (simp only [zq]; omega))
    exact zj (k := 10) (i := q31 + 1) Tryd.underlying47 Tryd.sizeOf59 (show _ = (v15 : Value) from (Eq.trans e487 (if_pos hb489))) hrd28.sl (show _ = (.int .i64 ((q31 + 1 : Nat) : Int) : Value) from (Eq.trans e488 (if_pos hb489))) hi491 (fun vals' hv _ => ⟨rfl, hv.trans (if_pos hb489).symm⟩)
   ·intro k492 vals w493 h496 h497 hW495 hA494
    have e498 := hA494 12 (by decide)
    have e499 : vals 21 = (if (decide (((l216.getD q31 default).typ) = ((l216.getD (q31 + 1) default).typ))) = true then (.pointer (some ⟨sb v15, so v15 + (q31 + 1) * 10, none⟩) : Value) else undef) := hA494 21 (by decide)
    refine zy rfl rfl e498 (fun hb500 => ?_) (fun hb500 => fun vals' hv _ => ⟨trivial, hv.trans (if_neg hb500).symm⟩)
    have hl501 := hb500
    have hl501 := of_decide_eq_true hl501
    exact xT (show _ = (.pointer (some ⟨sb v15, so v15 + (q31 + 1) * 10, none⟩) : Value) from (Eq.trans e499 (if_pos hb500))) (fun vals' hv _ => ⟨rfl, hv.trans (if_pos hb500).symm⟩)
   ·intro k502 vals w503 h506 h507 hW505 hA504
    obtain rfl : k502 = 0 := Nat.le_antisymm h507 h506
    have hS508 : Sep _ _ _ _ := hW505
    have e509 := hA504 12 (by decide)
    have e510 : vals 22 = (if (decide (((l216.getD q31 default).typ) = ((l216.getD (q31 + 1) default).typ))) = true then (.pointer (some ⟨sb v15, so v15 + (q31 + 1) * 10 + 5, none⟩) : Value) else undef) := hA504 22 (by decide)
    refine zy rfl rfl e509 (fun hb511 => ?_) (fun hb511 => fun vals' hv _ => ⟨trivial, hv.trans (if_neg hb511).symm⟩)
    have hl512 := hb511
    have hl512 := of_decide_eq_true hl512
    have hi514 : q31 + 1 < l216.length := (by first | omega | (simp only [zq]; omega))
    obtain ⟨hce513, hde513_0, hoke513⟩ := hrd28.ev hi514
    rw [← zl default hi514] at hce513 hde513_0 hoke513
    have hsm515 : ((l216.getD (q31 + 1) default).deps).length * 8 ≤ 140737488355328 := hde513_0.small
    have hcw516 := hS508.cells hce513 (hrd28.foot (ne_of_lt hi514))
    exact zf (v := .int .i64 ((l216.getD (q31 + 1) default).agg)) Tryd.isAgg3 (show _ = (.pointer (some ⟨sb v15, so v15 + (q31 + 1) * 10 + 5, none⟩) : Value) from (Eq.trans e510 (if_pos hb511))) (hcw516.get (j := 5) rfl) (fun vals' hv _ => ⟨rfl, hv.trans (if_pos hb511).symm⟩)
   ·intro k517 vals w518 h521 h522 hW520 hA519
    obtain rfl : k517 = 0 := Nat.le_antisymm h522 h521
    have hS523 : Sep _ _ _ _ := hW520
    have e524 := hA519 12 (by decide)
    have e525 : vals 17 = (if (decide (((l216.getD q31 default).typ) = ((l216.getD (q31 + 1) default).typ))) = true then (.int .i64 ((l216.getD q31 default).agg) : Value) else undef) := hA519 17 (by decide)
    have e526 : vals 23 = (if (decide (((l216.getD q31 default).typ) = ((l216.getD (q31 + 1) default).typ))) = true then (.int .i64 ((l216.getD (q31 + 1) default).agg) : Value) else undef) := hA519 23 (by decide)
    refine zy rfl rfl e524 (fun hb527 => ?_) (fun hb527 => fun vals' hv _ => ⟨trivial, hv.trans (if_neg hb527).symm⟩)
    have hl528 := hb527
    have hl528 := of_decide_eq_true hl528
    exact yh (k := .i64) (a := (l216.getD q31 default).agg) (b := (l216.getD (q31 + 1) default).agg) (show _ = (.int .i64 ((l216.getD q31 default).agg) : Value) from (Eq.trans e525 (if_pos hb527))) (show _ = (.int .i64 ((l216.getD (q31 + 1) default).agg) : Value) from (Eq.trans e526 (if_pos hb527))) (fun vals' hv _ => ⟨rfl, hv.trans (if_pos hb527).symm⟩)
   ·intro k529 vals w530 h533 h534 hW532 hA531
    have e535 := hA531 12 (by decide)
    have e536 : vals 24 = (if (decide (((l216.getD q31 default).typ) = ((l216.getD (q31 + 1) default).typ))) = true then (.bool (decide (((l216.getD q31 default).agg) = ((l216.getD (q31 + 1) default).agg))) : Value) else undef) := hA531 24 (by decide)
    refine obl rfl ?_
    exact zE (b := decide (((l216.getD q31 default).typ) = ((l216.getD (q31 + 1) default).typ))) (b' := decide (((l216.getD q31 default).agg) = ((l216.getD (q31 + 1) default).agg))) e535 (fun hbp => (show _ = (.bool (decide (((l216.getD q31 default).agg) = ((l216.getD (q31 + 1) default).agg))) : Value) from (Eq.trans e536 (if_pos hbp)))) (fun vals' hv _ => ⟨rfl, hv⟩)
   intro vals w537 hW538 hA539
   have hS540 : Sep _ _ _ _ := hW538
   have e541 := hA539 25 (by decide)
   refine yi (kv := [(0, .agg (d.cells dd0 dd1).toArray), (1, .int .i64 (n)), (2, v15), (3, .int .i64 ((q31 : Nat) : Int)), (4, .pointer (some ⟨b2, 0, none⟩)), (8, .bool false), (20, .agg (d.cells dd0 dd1).toArray), (21, .bool b5), (22, .bool false), (24, .int .i64 (n)), (25, .int .i64 ((q10 : Nat) : Int)), (26, .int .i64 ((1 + q10 : Nat) : Int)), (27, vl), (28, v15), (29, v15), (30, .int .i64 ((l216.length : Nat) : Int)), (31, .bool false), (33, .int .i64 (no)), (34, v15), (35, .int .i64 ((l216.length : Nat) : Int)), (36, .int .i64 ((l216.length - 1 : Nat) : Int)), (37, .int .i64 ((q31 : Nat) : Int)), (63, .bool ((decide (((l216.getD q31 default).typ) = ((l216.getD (q31 + 1) default).typ))) && (decide (((l216.getD q31 default).agg) = ((l216.getD (q31 + 1) default).agg)))))]) ⟨rfl, rfl, rfl, rfl, rfl, rfl, rfl, rfl, rfl, rfl, rfl, rfl, rfl, rfl, rfl, rfl, rfl, rfl, rfl, rfl, rfl, rfl, (by exact e541), trivial⟩ (fun ρw537 => ?_)
   refine zg ?_
   cases hc542 : (decide (((l216.getD q31 default).typ) = ((l216.getD (q31 + 1) default).typ))) && (decide (((l216.getD q31 default).agg) = ((l216.getD (q31 + 1) default).agg)))
   ·skip
    try simp only [zm] at hc542
    have hun : ¬ ((l216.getD q31 default).typ = (l216.getD (q31 + 1) default).typ ∧ (l216.getD q31 default).agg = (l216.getD (q31 + 1) default).agg) := fun h9 => hc542.elim (fun h8 => h8 h9.1) (fun h8 => h8 h9.2)
    have hlaw := Vv (d := d) (l := l216) (p := q31) (by omega) hun
    refine zo rfl ?_
    refine zx ?_
    refine ze ?_
    refine za (by kernel_rfl) (fun _ => ?_)
    refine st (zI (k := 10) (parts' := []) (c := #[]) Tryd.underlying47 Tryd.sizeOf59 Tryd.zeroValue59 (by decide) rfl (by kernel_rfl) ?_)
    intro w545 b544 hn543
    have hS546 := hS540.new hn543
    refine st (zb (v := v15) rfl ?_)
    have hS550 : Sep G22 w19 ((RowE (α := Ev) (shr G22 w19) 59 (.slice (some ⟨b544, 0, none⟩) 0 0) ([] : List Ev)) :: (Blk b2 (d.cells dd0 dd1).toArray 25) :: Rs) w545 := Sep.blkRow (src := (shr G22 w19)) (l := ([] : List Ev)) (css := []) hS546 rfl trivial (by first | decide | (simp only [List.length_cons, List.length_nil]; decide))
    have hr551 := hS550.row (i := 0) rfl
    have hr551s : _ * 96 ≤ _ := hr551.2
    refine st (yQ (src := (shr G22 w19)) (bytes := 96) hS550 Qx rfl rfl hrd28 (by first | omega | (simp only [List.length_append, List.length_cons, List.length_nil, List.length_take, List.length_drop]; omega)) rfl (hq' := fun _ _ h _ _ => h) ?_)
    intro v548 w547 hS549
    have hS549 : Sep G22 w19 ((RowE (α := Ev) (shr G22 w19) 59 v548 l216) :: (Blk b2 (d.cells dd0 dd1).toArray 25) :: Rs) w547 := hS549
    have hr552 := hS549.row (i := 0) rfl
    have hr552s : _ * 96 ≤ _ := hr552.2
    refine st (zd (v := v548) rfl ?_)
    refine zg ?_
    refine ze ?_
    refine za (by kernel_rfl) (fun _ => ?_)
    refine st (zb (v := v548) rfl ?_)
    refine st (zb (v := .int .i64 ((q31 : Nat) : Int)) rfl ?_)
    refine st (zb (v := v15) rfl ?_)
    refine st (zb (v := .int .i64 ((q31 : Nat) : Int)) rfl ?_)
    have hr553 : InR ((q31 + 1 : Nat) : Int) := by first | omega | (simp only [zq]; omega)
    refine st (yg (r := ((q31 + 1 : Nat) : Int)) (k := .i64) (a := ((q31 : Nat) : Int)) (b := 1) rfl rfl (by rw [show (((q31 : Nat) : Int) + 1 : Int) = ((q31 + 1 : Nat) : Int) by first | omega | (simp only [zq]; omega)]; exact zO hr553) ?_)
    have hi554 : q31 + 1 < l216.length := (by first | omega | (simp only [zq]; omega))
    refine st (zj (k := 10) (i := q31 + 1) Tryd.underlying47 Tryd.sizeOf59 rfl hrd28.sl rfl hi554 ?_)
    have hi556 : q31 + 1 < l216.length := (by first | omega | (simp only [zq]; omega))
    obtain ⟨hce555, hde555_0, hoke555⟩ := hrd28.ev hi556
    rw [← zl default hi556] at hce555 hde555_0 hoke555
    have hsm557 : ((l216.getD (q31 + 1) default).deps).length * 8 ≤ 140737488355328 := hde555_0.small
    have hcw558 := hS549.cells hce555 (hrd28.foot (ne_of_lt hi556))
    refine st (zn (k := 10) Tryd.isAgg59 Tryd.sizeOf59 rfl rfl hcw558 ?_)
    have hi559 : q31 < l216.length := (by first | omega | (simp only [zq]; omega))
    refine st (zj (k := 10) (i := q31) Tryd.underlying47 Tryd.sizeOf59 rfl hr552.1 rfl hi559 ?_)
    have hS561 : Sep G22 w19 ((RowE (α := Ev) (shr G22 w19) 59 v548 l216) :: Emp :: (Blk b2 (d.cells dd0 dd1).toArray 25) :: Rs) w547 := hS549.emp1
    refine stn (yG (α := Ev) (j := q31) (o := 0) (u := .agg ((l216.getD (q31 + 1) default).cells (zk w19 (sb v15) (so v15 + (q31 + 1) * 10 + 3))).toArray) (us := (l216.getD (q31 + 1) default).cells (zk w19 (sb v15) (so v15 + (q31 + 1) * 10 + 3))) (x1 := (l216.getD (q31 + 1) default)) hS561 Tryd.sizeOf59 (by first | omega | (simp only [zq]; omega)) rfl rfl rfl (Nat.le_of_ble_eq_true rfl) (yp ⟨rfl, rfl, rfl, hde555_0.sl.one, rfl, rfl, rfl, rfl, rfl, rfl, trivial⟩) (fun _ _ cs0 hel _ => (by have hl0 := Src.len _ hel; have e0 : cs0.take 0 ++ ((l216.getD (q31 + 1) default).cells (zk w19 (sb v15) (so v15 + (q31 + 1) * 10 + 3))) ++ cs0.drop (0 + ((l216.getD (q31 + 1) default).cells (zk w19 (sb v15) (so v15 + (q31 + 1) * 10 + 3))).length) = ((l216.getD (q31 + 1) default).cells (zk w19 (sb v15) (so v15 + (q31 + 1) * 10 + 3))) := (by rw [List.drop_eq_nil_of_le (by rw [hl0]; exact Nat.le_of_ble_eq_true rfl)]; simp); rw [e0]; exact (show _ from ⟨_, rfl, hde555_0, hoke555⟩))) ?_)
    intro w560 hS562
    have hr563 := hS562.row (i := 0) rfl
    have hr563s : _ * 96 ≤ _ := hr563.2
    refine zg ?_
    refine ze ?_
    refine za (by kernel_rfl) (fun _ => ?_)
    refine st (zb (v := v548) rfl ?_)
    refine st (zb (v := .int .i64 ((q31 : Nat) : Int)) rfl ?_)
    have hr564 : InR ((q31 + 1 : Nat) : Int) := by first | omega | (simp only [zq]; omega)
    refine st (yg (r := ((q31 + 1 : Nat) : Int)) (k := .i64) (a := ((q31 : Nat) : Int)) (b := 1) rfl rfl (by rw [show (((q31 : Nat) : Int) + 1 : Int) = ((q31 + 1 : Nat) : Int) by first | omega | (simp only [zq]; omega)]; exact zO hr564) ?_)
    refine st (zb (v := v15) rfl ?_)
    refine st (zb (v := .int .i64 ((q31 : Nat) : Int)) rfl ?_)
    have hi565 : q31 < l216.length := (by first | omega | (simp only [zq]; omega))
    refine st (zj (k := 10) (i := q31) Tryd.underlying47 Tryd.sizeOf59 rfl hrd28.sl rfl hi565 ?_)
    have hi567 : q31 < l216.length := (by first | omega | (simp only [zq]; omega))
    obtain ⟨hce566, hde566_0, hoke566⟩ := hrd28.ev hi567
    rw [← zl default hi567] at hce566 hde566_0 hoke566
    have hsm568 : ((l216.getD q31 default).deps).length * 8 ≤ 140737488355328 := hde566_0.small
    have hcw569 := hS562.cells hce566 (hrd28.foot (ne_of_lt hi567))
    refine st (zn (k := 10) Tryd.isAgg59 Tryd.sizeOf59 rfl rfl hcw569 ?_)
    have hi570 : q31 + 1 < (l216.set q31 (l216.getD (q31 + 1) default)).length := (by first | omega | (simp only [zq]; omega))
    refine st (zj (k := 10) (i := q31 + 1) Tryd.underlying47 Tryd.sizeOf59 rfl hr563.1 rfl hi570 ?_)
    have hS572 : Sep G22 w19 ((RowE (α := Ev) (shr G22 w19) 59 v548 (l216.set q31 (l216.getD (q31 + 1) default))) :: Emp :: (Blk b2 (d.cells dd0 dd1).toArray 25) :: Rs) w560 := hS562.emp1
    refine stn (yG (α := Ev) (j := q31 + 1) (o := 0) (u := .agg ((l216.getD q31 default).cells (zk w19 (sb v15) (so v15 + q31 * 10 + 3))).toArray) (us := (l216.getD q31 default).cells (zk w19 (sb v15) (so v15 + q31 * 10 + 3))) (x1 := (l216.getD q31 default)) hS572 Tryd.sizeOf59 (by first | omega | (simp only [zq]; omega)) rfl rfl rfl (Nat.le_of_ble_eq_true rfl) (yp ⟨rfl, rfl, rfl, hde566_0.sl.one, rfl, rfl, rfl, rfl, rfl, rfl, trivial⟩) (fun _ _ cs0 hel _ => (by have hl0 := Src.len _ hel; have e0 : cs0.take 0 ++ ((l216.getD q31 default).cells (zk w19 (sb v15) (so v15 + q31 * 10 + 3))) ++ cs0.drop (0 + ((l216.getD q31 default).cells (zk w19 (sb v15) (so v15 + q31 * 10 + 3))).length) = ((l216.getD q31 default).cells (zk w19 (sb v15) (so v15 + q31 * 10 + 3))) := (by rw [List.drop_eq_nil_of_le (by rw [hl0]; exact Nat.le_of_ble_eq_true rfl)]; simp); rw [e0]; exact (show _ from ⟨_, rfl, hde566_0, hoke566⟩))) ?_)
    intro w571 hS573
    have hr574 := hS573.row (i := 0) rfl
    have hr574s : _ * 96 ≤ _ := hr574.2
    refine zg ?_
    refine ze ?_
    have hsw1 : (l216.set q31 (l216.getD (q31 + 1) default)).set (q31 + 1) (l216.getD q31 default) = swp l216 q31 := rfl
    rw [hsw1] at hS573
    have hr575 := hS573.row (i := 0) rfl
    have hr575s : _ * 96 ≤ _ := hr575.2
    refine za (by kernel_rfl) (fun _ => ?_)
    refine st (zn (k := 2) Tryd.isAgg25 Tryd.sizeOf25 rfl rfl (CellsAt.all (hS573.blk (i := 1) rfl)) ?_)
    refine st (zb (v := v15) rfl ?_)
    refine st (zt (f := 38) (vals := [.agg (d.cells dd0 dd1).toArray, v15]) (cap := []) rfl rfl Tryd.call38 (WK (d := d) (l := l216) (vl := v15) (RdS.base hdd0 hB25) (RdS.base hdd1 hB25) od hrd28 (RdS.base hKN hB25) hS573 (hdo) ((by first | omega | (rw [Xc]; omega)))) ?_)
    rintro _ w577 ⟨b576, rfl, hS578⟩
    refine st (zd (v := .pointer (some ⟨b576, 0, none⟩)) rfl ?_)
    refine zg ?_
    refine ze ?_
    refine za (by kernel_rfl) (fun _ => ?_)
    refine st (zn (k := 2) Tryd.isAgg25 Tryd.sizeOf25 rfl rfl (CellsAt.all (hS578.blk (i := 2) rfl)) ?_)
    refine st (zb (v := v548) rfl ?_)
    have hS579 := hS578.mv1
    obtain ⟨G580, hA582, hB583, hS584, hk585⟩ := hS579.lend
    have hrd586 := RowE.rdB hA582 hB583
    have hrd586s : _ * 96 ≤ _ := hrd586.small
    refine st (zt (f := 38) (vals := [.agg (d.cells dd0 dd1).toArray, v548]) (cap := []) rfl rfl Tryd.call38 (WK (d := d) (l := (swp l216 q31)) (vl := v548) (RdS.base (RdS.base hdd0 hB25) hB583) (RdS.base (RdS.base hdd1 hB25) hB583) od hrd586 (RdS.base (RdS.base hKN hB25) hB583) hS584 (hdo) ((by first | omega | (rw [Xc]; omega)))) ?_)
    rintro _ w588 ⟨b587, rfl, hS589⟩
    have hS590 := hk585 _ _ hS589
    refine st (zd (v := .pointer (some ⟨b587, 0, none⟩)) rfl ?_)
    refine zg ?_
    refine ze ?_
    refine ze ?_
    refine zG (by kernel_rfl) ?_
    refine st (zb (v := .pointer (some ⟨b576, 0, none⟩)) rfl ?_)
    refine st (Zc (b := b576) (o := 0) Tryd.underlying51 rfl ?_)
    refine st (zb (v := .bool false) rfl ?_)
    refine sty rfl rfl (zb (v := .pointer (some ⟨b587, 0, none⟩)) rfl ?_)
    refine sty rfl rfl (Zc (b := b587) (o := 0) Tryd.underlying51 rfl ?_)
    refine st (zW (v := .bool false) rfl rfl ?_)
    refine zg ?_
    refine zo rfl ?_
    refine zx ?_
    refine ze ?_
    refine za (by kernel_rfl) (fun _ => ?_)
    refine st (zb (v := .pointer (some ⟨b576, 0, none⟩)) rfl ?_)
    have hS591 := hS590.mv2
    refine st (zt (f := 36) (vals := [.pointer (some ⟨b576, 0, none⟩)]) (cap := []) rfl rfl Tryd.call36 (Zb  hS591) ?_)
    rintro v592 w593 ⟨_, rfl, hS594⟩
    have hr595 := hS594.row (i := 1) rfl
    have hr595s : _ * 120 ≤ _ := hr595.2
    refine st (zd (v := v592) rfl ?_)
    refine zg ?_
    refine ze ?_
    have hS596 := hS594.mv1
    have hXl : ((yI d l216)).length = l216.length := xn _ _
    obtain ⟨X, hX⟩ : ∃ z, z = (yI d l216) := ⟨_, rfl⟩
    rw [← hX] at hS596 hXl
    have hr597 := hS596.row (i := 0) rfl
    have hr597s : _ * 120 ≤ _ := hr597.2
    obtain ⟨G598, hA600, hB601, hS602, hk603⟩ := hS596.lend
    have hrd604 := RowE.rd hA600
    have hrd604s : _ * 120 ≤ _ := hrd604.small
    refine za (by kernel_rfl) (fun _ => ?_)
    refine st (zb (v := .pointer (some ⟨b587, 0, none⟩)) rfl ?_)
    have hS605 := hS602.mv2
    refine st (zt (f := 36) (vals := [.pointer (some ⟨b587, 0, none⟩)]) (cap := []) rfl rfl Tryd.call36 (Zb  hS605) ?_)
    rintro v606 w607 ⟨_, rfl, hS608⟩
    have hr609 := hS608.row (i := 1) rfl
    have hr609s : _ * 120 ≤ _ := hr609.2
    refine st (zd (v := v606) rfl ?_)
    refine zg ?_
    refine ze ?_
    refine ze ?_
    have hS610 := hS608.mv1
    have hZl : ((yI d (swp l216 q31))).length = l216.length := (xn _ _).trans Xc
    obtain ⟨Z, hZ⟩ : ∃ z, z = (yI d (swp l216 q31)) := ⟨_, rfl⟩
    rw [← hZ] at hS610 hZl
    have hr611 := hS610.row (i := 0) rfl
    have hr611s : _ * 120 ≤ _ := hr611.2
    obtain ⟨G612, hA614, hB615, hS616, hk617⟩ := hS610.lend
    have hrd618 := RowE.rd hA614
    have hrd618s : _ * 120 ≤ _ := hrd618.small
    refine zG (by kernel_rfl) ?_
    refine st (zb (v := v592) rfl ?_)
    refine st (zK (n := X.length) Tryd.underlying66 rfl (RdS.base hrd604 hB615).sl ?_)
    refine st (zb (v := v15) rfl ?_)
    refine st (zK (n := l216.length) Tryd.underlying47 rfl (RdS.base (RdS.base hrd28 hB601) hB615).sl ?_)
    refine st (yy (k := .i64) (a := ((X.length : Nat) : Int)) (b := ((l216.length : Nat) : Int)) rfl rfl ?_)
    have hkn619 : (!decide (((X.length : Nat) : Int) = ((l216.length : Nat) : Int))) = false := (by rw [hXl]; simp)
    rw [hkn619]
    refine st (zb (v := .bool false) rfl ?_)
    refine sty rfl rfl (zb (v := v606) rfl ?_)
    refine sty rfl rfl (zK (n := Z.length) Tryd.underlying66 rfl hrd618.sl ?_)
    refine sty rfl rfl (zb (v := v15) rfl ?_)
    refine sty rfl rfl (zK (n := l216.length) Tryd.underlying47 rfl (RdS.base (RdS.base hrd28 hB601) hB615).sl ?_)
    refine sty rfl rfl (yy (k := .i64) (a := ((Z.length : Nat) : Int)) (b := ((l216.length : Nat) : Int)) rfl rfl ?_)
    have hkn620 : (!decide (((Z.length : Nat) : Int) = ((l216.length : Nat) : Int))) = false := (by rw [hZl]; simp)
    rw [hkn620]
    refine st (zW (v := .bool false) rfl rfl ?_)
    refine zg ?_
    refine zo rfl ?_
    refine zx ?_
    refine ze ?_
    refine za (by kernel_rfl) (fun _ => ?_)
    refine st (zI (k := 13) (parts' := []) (c := #[]) Tryd.underlying66 Tryd.sizeOf62 Tryd.zeroValue62 (by decide) rfl (by kernel_rfl) ?_)
    intro w623 b622 hn621
    have hS624 := hS616.new hn621
    refine st (zb (v := v606) rfl ?_)
    have hS628 : Sep G612 w607 ((RowE (α := Ent) (shr G612 w607) 62 (.slice (some ⟨b622, 0, none⟩) 0 0) ([] : List Ent)) :: (ViewO b587 d Z Z) :: (ViewO b576 d X X) :: (RowE (α := Ev) (shr G22 w19) 59 v548 (swp l216 q31)) :: (Blk b2 (d.cells dd0 dd1).toArray 25) :: Rs) w623 := Sep.blkRow (src := (shr G612 w607)) (l := ([] : List Ent)) (css := []) hS624 rfl trivial (by first | decide | (simp only [List.length_cons, List.length_nil]; decide))
    have hr629 := hS628.row (i := 0) rfl
    have hr629s : _ * 120 ≤ _ := hr629.2
    refine st (yQ (src := (shr G612 w607)) (bytes := 120) hS628 Qt rfl rfl hrd618 (by first | omega | (simp only [List.length_append, List.length_cons, List.length_nil, List.length_take, List.length_drop]; omega)) rfl (hq' := fun _ _ h _ _ => h) ?_)
    intro v626 w625 hS627
    have hS627 : Sep G612 w607 ((RowE (α := Ent) (shr G612 w607) 62 v626 Z) :: (ViewO b587 d Z Z) :: (ViewO b576 d X X) :: (RowE (α := Ev) (shr G22 w19) 59 v548 (swp l216 q31)) :: (Blk b2 (d.cells dd0 dd1).toArray 25) :: Rs) w625 := hS627
    have hr630 := hS627.row (i := 0) rfl
    have hr630s : _ * 120 ≤ _ := hr630.2
    refine st (zd (v := v626) rfl ?_)
    refine zg ?_
    refine ze ?_
    refine za (by kernel_rfl) (fun _ => ?_)
    refine st (zb (v := v626) rfl ?_)
    refine st (zb (v := .int .i64 ((q31 : Nat) : Int)) rfl ?_)
    refine st (zb (v := v606) rfl ?_)
    refine st (zb (v := .int .i64 ((q31 : Nat) : Int)) rfl ?_)
    have hr631 : InR ((q31 + 1 : Nat) : Int) := by first | omega | (simp only [zq]; omega)
    refine st (yg (r := ((q31 + 1 : Nat) : Int)) (k := .i64) (a := ((q31 : Nat) : Int)) (b := 1) rfl rfl (by rw [show (((q31 : Nat) : Int) + 1 : Int) = ((q31 + 1 : Nat) : Int) by first | omega | (simp only [zq]; omega)]; exact zO hr631) ?_)
    have hi632 : q31 + 1 < Z.length := (by first | omega | (simp only [zq]; omega))
    refine st (zj (k := 13) (i := q31 + 1) Tryd.underlying66 Tryd.sizeOf62 rfl hrd618.sl rfl hi632 ?_)
    have hi634 : q31 + 1 < Z.length := (by first | omega | (simp only [zq]; omega))
    obtain ⟨hce633, hde633_0, hoke633⟩ := hrd618.ent hi634
    rw [← zl default hi634] at hce633 hde633_0 hoke633
    have hsm635 : ((Z.getD (q31 + 1) default).ev.deps).length * 8 ≤ 140737488355328 := hde633_0.small
    have hcw636 := hS627.cells hce633 (hrd618.foot (ne_of_lt hi634))
    refine st (zn (k := 13) Tryd.isAgg62 Tryd.sizeOf62 rfl rfl hcw636 ?_)
    have hi637 : q31 < Z.length := (by first | omega | (simp only [zq]; omega))
    refine st (zj (k := 13) (i := q31) Tryd.underlying66 Tryd.sizeOf62 rfl hr630.1 rfl hi637 ?_)
    have hS639 : Sep G612 w607 ((RowE (α := Ent) (shr G612 w607) 62 v626 Z) :: Emp :: (ViewO b587 d Z Z) :: (ViewO b576 d X X) :: (RowE (α := Ev) (shr G22 w19) 59 v548 (swp l216 q31)) :: (Blk b2 (d.cells dd0 dd1).toArray 25) :: Rs) w625 := hS627.emp1
    refine stn (yG (α := Ent) (j := q31) (o := 0) (u := .agg ((Z.getD (q31 + 1) default).cells (zk w607 (sb v606) (so v606 + (q31 + 1) * 13 + 3))).toArray) (us := (Z.getD (q31 + 1) default).cells (zk w607 (sb v606) (so v606 + (q31 + 1) * 13 + 3))) (x1 := (Z.getD (q31 + 1) default)) hS639 Tryd.sizeOf62 (by first | omega | (simp only [zq]; omega)) rfl rfl rfl (Nat.le_of_ble_eq_true rfl) (yp ⟨rfl, rfl, rfl, hde633_0.sl.one, rfl, rfl, rfl, rfl, rfl, rfl, rfl, rfl, rfl, trivial⟩) (fun _ _ cs0 hel _ => (by have hl0 := Src.len _ hel; have e0 : cs0.take 0 ++ ((Z.getD (q31 + 1) default).cells (zk w607 (sb v606) (so v606 + (q31 + 1) * 13 + 3))) ++ cs0.drop (0 + ((Z.getD (q31 + 1) default).cells (zk w607 (sb v606) (so v606 + (q31 + 1) * 13 + 3))).length) = ((Z.getD (q31 + 1) default).cells (zk w607 (sb v606) (so v606 + (q31 + 1) * 13 + 3))) := (by rw [List.drop_eq_nil_of_le (by rw [hl0]; exact Nat.le_of_ble_eq_true rfl)]; simp); rw [e0]; exact (show _ from ⟨_, rfl, hde633_0, hoke633⟩))) ?_)
    intro w638 hS640
    have hr641 := hS640.row (i := 0) rfl
    have hr641s : _ * 120 ≤ _ := hr641.2
    refine zg ?_
    refine ze ?_
    refine za (by kernel_rfl) (fun _ => ?_)
    refine st (zb (v := v626) rfl ?_)
    refine st (zb (v := .int .i64 ((q31 : Nat) : Int)) rfl ?_)
    have hr642 : InR ((q31 + 1 : Nat) : Int) := by first | omega | (simp only [zq]; omega)
    refine st (yg (r := ((q31 + 1 : Nat) : Int)) (k := .i64) (a := ((q31 : Nat) : Int)) (b := 1) rfl rfl (by rw [show (((q31 : Nat) : Int) + 1 : Int) = ((q31 + 1 : Nat) : Int) by first | omega | (simp only [zq]; omega)]; exact zO hr642) ?_)
    refine st (zb (v := v606) rfl ?_)
    refine st (zb (v := .int .i64 ((q31 : Nat) : Int)) rfl ?_)
    have hi643 : q31 < Z.length := (by first | omega | (simp only [zq]; omega))
    refine st (zj (k := 13) (i := q31) Tryd.underlying66 Tryd.sizeOf62 rfl hrd618.sl rfl hi643 ?_)
    have hi645 : q31 < Z.length := (by first | omega | (simp only [zq]; omega))
    obtain ⟨hce644, hde644_0, hoke644⟩ := hrd618.ent hi645
    rw [← zl default hi645] at hce644 hde644_0 hoke644
    have hsm646 : ((Z.getD q31 default).ev.deps).length * 8 ≤ 140737488355328 := hde644_0.small
    have hcw647 := hS640.cells hce644 (hrd618.foot (ne_of_lt hi645))
    refine st (zn (k := 13) Tryd.isAgg62 Tryd.sizeOf62 rfl rfl hcw647 ?_)
    have hi648 : q31 + 1 < (Z.set q31 (Z.getD (q31 + 1) default)).length := (by first | omega | (simp only [zq]; omega))
    refine st (zj (k := 13) (i := q31 + 1) Tryd.underlying66 Tryd.sizeOf62 rfl hr641.1 rfl hi648 ?_)
    have hS650 : Sep G612 w607 ((RowE (α := Ent) (shr G612 w607) 62 v626 (Z.set q31 (Z.getD (q31 + 1) default))) :: Emp :: (ViewO b587 d Z Z) :: (ViewO b576 d X X) :: (RowE (α := Ev) (shr G22 w19) 59 v548 (swp l216 q31)) :: (Blk b2 (d.cells dd0 dd1).toArray 25) :: Rs) w638 := hS640.emp1
    refine stn (yG (α := Ent) (j := q31 + 1) (o := 0) (u := .agg ((Z.getD q31 default).cells (zk w607 (sb v606) (so v606 + q31 * 13 + 3))).toArray) (us := (Z.getD q31 default).cells (zk w607 (sb v606) (so v606 + q31 * 13 + 3))) (x1 := (Z.getD q31 default)) hS650 Tryd.sizeOf62 (by first | omega | (simp only [zq]; omega)) rfl rfl rfl (Nat.le_of_ble_eq_true rfl) (yp ⟨rfl, rfl, rfl, hde644_0.sl.one, rfl, rfl, rfl, rfl, rfl, rfl, rfl, rfl, rfl, trivial⟩) (fun _ _ cs0 hel _ => (by have hl0 := Src.len _ hel; have e0 : cs0.take 0 ++ ((Z.getD q31 default).cells (zk w607 (sb v606) (so v606 + q31 * 13 + 3))) ++ cs0.drop (0 + ((Z.getD q31 default).cells (zk w607 (sb v606) (so v606 + q31 * 13 + 3))).length) = ((Z.getD q31 default).cells (zk w607 (sb v606) (so v606 + q31 * 13 + 3))) := (by rw [List.drop_eq_nil_of_le (by rw [hl0]; exact Nat.le_of_ble_eq_true rfl)]; simp); rw [e0]; exact (show _ from ⟨_, rfl, hde644_0, hoke644⟩))) ?_)
    intro w649 hS651
    have hr652 := hS651.row (i := 0) rfl
    have hr652s : _ * 120 ≤ _ := hr652.2
    refine zg ?_
    refine ze ?_
    refine ze ?_
    have hsw2 : (Z.set q31 (Z.getD (q31 + 1) default)).set (q31 + 1) (Z.getD q31 default) = swp Z q31 := rfl
    rw [hsw2] at hS651
    have hr653 := hS651.row (i := 0) rfl
    have hr653s : _ * 120 ≤ _ := hr653.2
    refine za (by kernel_rfl) (fun _ => ?_)
    refine st (zb (v := v592) rfl ?_)
    refine st (zb (v := v626) rfl ?_)
    obtain ⟨G654, hA656, hB657, hS658, hk659⟩ := hS651.lend
    have hrd660 := RowE.rdB hA656 hB657
    have hrd660s : _ * 120 ≤ _ := hrd660.small
    refine st (zt (f := 31) (vals := [v592, v626]) (cap := []) rfl rfl Tryd.call31 (YI (a := X) (va := v592) (b := (swp Z q31)) (vb := v626) (RdS.base (RdS.base hrd604 hB615) hB657) hrd660 hS658) ?_)
    rintro _ w661 ⟨rfl, hS662⟩
    have hS663 := hk659 _ _ hS662
    have hkn664 : (decide (X = (swp Z q31))) = true := (decide_eq_true (by rw [hX, hZ]; exact hlaw.1))
    rw [hkn664]
    refine st (yB (a := true) rfl ?_)
    refine zg ?_
    refine zo rfl ?_
    refine zx ?_
    refine ze ?_
    refine ze ?_
    refine za (by kernel_rfl) (fun _ => ?_)
    refine st (zd (v := .int .i64 (0)) rfl ?_)
    refine zg ?_
    refine zC ?_
    refine yw (fun mq σ wq => ∃ (k : Nat) (ρ : Env), mq = l216.length - k ∧ σ = yx ρ [(2, v15), (4, .pointer (some ⟨b2, 0, none⟩)), (10, .pointer (some ⟨b576, 0, none⟩)), (11, .pointer (some ⟨b587, 0, none⟩)), (15, .int .i64 ((k : Nat) : Int))] ∧ (k ≤ l216.length) ∧ Sep G612 w607 ((RowE (α := Ent) (shr G612 w607) 62 v626 (swp Z q31)) :: (ViewO b587 d Z Z) :: (ViewO b576 d X X) :: (RowE (α := Ev) (shr G22 w19) 59 v548 (swp l216 q31)) :: (Blk b2 (d.cells dd0 dd1).toArray 25) :: Rs) wq) ⟨0, _, rfl, zu ⟨rfl, rfl, rfl, rfl, rfl, trivial⟩, Nat.zero_le _, hS663⟩ ?_
    rintro m666 σ667 w665 ⟨k, ρl1, rfl, rfl, hkk, hS668⟩
    refine ze ?_
    refine ze ?_
    refine za (by kernel_rfl) (fun _ => ?_)
    refine st (zb (v := .int .i64 ((k : Nat) : Int)) rfl ?_)
    refine st (zb (v := v15) rfl ?_)
    refine st (zK (n := l216.length) Tryd.underlying47 rfl (RdS.base (RdS.base hrd28 hB601) hB615).sl ?_)
    refine st (zU (k := .i64) (a := ((k : Nat) : Int)) (b := ((l216.length : Nat) : Int)) rfl rfl ?_)
    refine zg ?_
    cases hc669 : decide (((k : Nat) : Int) < ((l216.length : Nat) : Int))
    ·skip
     have hc669 := of_decide_eq_false hc669
     refine zo rfl ?_
     refine yv ?_
     refine yo ?_
     refine ze ?_
     refine za (by kernel_rfl) (fun _ => ?_)
     refine st (zt (f := 21) (vals := []) (cap := []) rfl rfl Tryd.call21 (Zh  (RdS.base (RdS.base (RdS.base hKN hB25) hB601) hB615) hS668) ?_)
     rintro _ w670 ⟨rfl, hS671⟩
     refine st (zd (v := .bool true) rfl ?_)
     refine zg ?_
     refine zv ?_
     refine zX Tryd.results9 (show _ = (.bool true : Value) from rfl) ?_
     have hS672 := hk617 _ _ hS671
     have hS673 := hk603 _ _ hS672
     have hS674 := hk27 _ _ hS673
     have hS675 : Sep G W Rs w670 := hS674.sel 8 [] (Nat.le_add_left _ _) rfl rfl
     refine ⟨rfl, hS675⟩
    ·skip
     have hc669 := of_decide_eq_true hc669
     refine zp rfl ?_
     refine zx ?_
     refine ze ?_
     refine zC ?_
     refine ze ?_
     refine xY ((fun TT pp0 pp1 pp2 => WF [fun vals wq => Sep G612 w607 (pp0 :: pp1 :: pp2 :: TT) wq, fun vals wq => ∃ (v767 : Value), (vals 11 = (.tuple #[.agg ((zY d (((l216.getD k default).typ), ((l216.getD k default).agg)) X).cells v767).toArray, .bool ((zi d X (((l216.getD k default).typ), ((l216.getD k default).agg))).isSome)] : Value)) ∧ Sep G612 w607 (pp2 :: (RwC v767 (stL d (((l216.getD k default).typ), ((l216.getD k default).agg)) X)) :: pp0 :: pp1 :: TT) wq, fun vals wq => ∃ (b799 : Nat), (vals 15 = (.pointer (some ⟨b799, 0, none⟩) : Value)) ∧ Sep G612 w607 ((Blk b799 #[.int .i64 (0), (.slice none 0 0)] 68) :: pp0 :: pp1 :: pp2 :: TT) wq, fun vals wq => ∃ (v767 : Value) (b799 : Nat), (vals 11 = (.tuple #[.agg ((zY d (((l216.getD k default).typ), ((l216.getD k default).agg)) X).cells v767).toArray, .bool ((zi d X (((l216.getD k default).typ), ((l216.getD k default).agg))).isSome)] : Value)) ∧ (vals 15 = (.pointer (some ⟨b799, 0, none⟩) : Value)) ∧ Sep G612 w607 ((Blk b799 #[.int .i64 (0), (.slice none 0 0)] 68) :: pp2 :: (RwC v767 (stL d (((l216.getD k default).typ), ((l216.getD k default).agg)) X)) :: pp0 :: pp1 :: TT) wq, fun _ _ => True, fun _ _ => True, fun _ _ => True, fun vals wq => ∃ (v767 : Value) (b799 : Nat), (vals 11 = (.tuple #[.agg ((zY d (((l216.getD k default).typ), ((l216.getD k default).agg)) X).cells v767).toArray, .bool ((zi d X (((l216.getD k default).typ), ((l216.getD k default).agg))).isSome)] : Value)) ∧ (vals 15 = (.pointer (some ⟨b799, 0, none⟩) : Value)) ∧ Sep G612 w607 ((Blk b799 ((zY d (((l216.getD k default).typ), ((l216.getD k default).agg)) X).cells v767).toArray 68) :: pp2 :: (RwC v767 (stL d (((l216.getD k default).typ), ((l216.getD k default).agg)) X)) :: pp0 :: pp1 :: TT) wq]) ((RowE (α := Ev) (shr G22 w19) 59 v548 (swp l216 q31)) :: (Blk b2 (d.cells dd0 dd1).toArray 25) :: Rs) (RowE (α := Ent) (shr G612 w607) 62 v626 (swp Z q31)) (ViewO b587 d Z Z) (ViewO b576 d X X)) (AF [Vl 0 (.pointer (some ⟨b576, 0, none⟩)), Vl 1 (v15), Vl 2 (.int .i64 ((k : Nat) : Int)), Vl 3 (.pointer (some ⟨sb v15, so v15 + k * 10, none⟩)), Vl 4 (.pointer (some ⟨sb v15, so v15 + k * 10 + 4, none⟩)), Vl 5 (.int .i64 ((l216.getD k default).typ)), Vl 6 (v15), Vl 7 (.int .i64 ((k : Nat) : Int)), Vl 8 (.pointer (some ⟨sb v15, so v15 + k * 10, none⟩)), Vl 9 (.pointer (some ⟨sb v15, so v15 + k * 10 + 5, none⟩)), Vl 10 (.int .i64 ((l216.getD k default).agg)), fun _ => True, fun vals => ∀ (v767 : Value), vals 11 = (.tuple #[.agg ((zY d (((l216.getD k default).typ), ((l216.getD k default).agg)) X).cells v767).toArray, .bool ((zi d X (((l216.getD k default).typ), ((l216.getD k default).agg))).isSome)] : Value) → vals 12 = (.tuple #[.agg ((zY d (((l216.getD k default).typ), ((l216.getD k default).agg)) X).cells v767).toArray, .bool ((zi d X (((l216.getD k default).typ), ((l216.getD k default).agg))).isSome)] : Value), fun vals => ∀ (v767 : Value), vals 11 = (.tuple #[.agg ((zY d (((l216.getD k default).typ), ((l216.getD k default).agg)) X).cells v767).toArray, .bool ((zi d X (((l216.getD k default).typ), ((l216.getD k default).agg))).isSome)] : Value) → vals 13 = (.agg ((zY d (((l216.getD k default).typ), ((l216.getD k default).agg)) X).cells v767).toArray : Value), Vl 14 (.bool ((zi d X (((l216.getD k default).typ), ((l216.getD k default).agg))).isSome)), fun _ => True, fun _ => True, Vl 17 (.bool ((zi d X (((l216.getD k default).typ), ((l216.getD k default).agg))).isSome))]) [[], [], [], [1, 2], [1, 2, 3], [1, 2, 3, 4], [], [], [6, 7], [6, 7, 8], [6, 7, 8, 9], [0, 1, 2, 3, 4, 5, 6, 7, 8, 9, 10], [0, 1, 2, 3, 4, 5, 6, 7, 8, 9, 10, 11], [0, 1, 2, 3, 4, 5, 6, 7, 8, 9, 10, 11, 12], [0, 1, 2, 3, 4, 5, 6, 7, 8, 9, 10, 11, 12], [], [0, 1, 2, 3, 4, 5, 6, 7, 8, 9, 10, 11, 12, 13, 15], [0, 1, 2, 3, 4, 5, 6, 7, 8, 9, 10, 11, 12, 13, 14, 15, 16]] [11, 15, 16] [[0, 2], [0, 2], [0, 2], [0, 2], [0, 2], [0, 2], [0, 2], [0, 2], [0, 2], [0, 2], [0, 2], [0, 2], [1, 3], [1, 3], [1, 3, 7], [0, 1], [3], [7]] (by kernel_rfl) (by kernel_rfl) (by kernel_rfl) rfl (by kernel_rfl) (by kernel_rfl) (by decide) (fun _ h1 h2 h3 h4 _ => hS668.same h1 h2 h3 h4) ?_ (yj ⟨dA, dA, dA, dA, dA, dA, dA, dA, dA, dA, dA, dT, fun vals vals' hv h => fun v767 hq0 => (hv 12 (.inl rfl)).trans (h v767 ((hv 11 (.inr (by decide))).symm.trans hq0)), fun vals vals' hv h => fun v767 hq0 => (hv 13 (.inl rfl)).trans (h v767 ((hv 11 (.inr (by decide))).symm.trans hq0)), dA, dT, dT, dA, trivial⟩) ⟨?_, ?_, ?_, ?_, ?_, ?_, ?_, ?_, ?_, ?_, ?_, ?_, ?_, ?_, ?_, ?_, ?_, ?_, trivial⟩ ?_
     ·intro k vals vals' w hv h
      have e : ∀ j ∈ ([11, 15, 16] : List Nat), vals' j = vals j := hv
      match k, h with
      | 0, h => exact h
      | 1, h => exact (by simpa only [WF, List.getElem?_cons_zero, List.getElem?_cons_succ, e 11 (by decide)] using h)
      | 2, h => exact (by simpa only [WF, List.getElem?_cons_zero, List.getElem?_cons_succ, e 15 (by decide)] using h)
      | 3, h => exact (by simpa only [WF, List.getElem?_cons_zero, List.getElem?_cons_succ, e 11 (by decide), e 15 (by decide)] using h)
      | 4, h => exact h
      | 5, h => exact h
      | 6, h => exact h
      | 7, h => exact (by simpa only [WF, List.getElem?_cons_zero, List.getElem?_cons_succ, e 11 (by decide), e 15 (by decide)] using h)
      | _ + 8, _ => trivial
     ·intro k825 vals w826 hk829 hW828 hA827
      refine obl rfl ?_
      exact zb (v := .pointer (some ⟨b576, 0, none⟩)) rfl (fun vals' hv _ => ⟨rfl, hv⟩)
     ·intro k830 vals w831 hk834 hW833 hA832
      refine obl rfl ?_
      exact zb (v := v15) rfl (fun vals' hv _ => ⟨rfl, hv⟩)
     ·intro k835 vals w836 hk839 hW838 hA837
      refine obl rfl ?_
      exact zb (v := .int .i64 ((k : Nat) : Int)) rfl (fun vals' hv _ => ⟨rfl, hv⟩)
     ·intro k840 vals w841 hk844 hW843 hA842
      have hk8442 : k840 ∈ [0, 2] := hk844
      simp only [List.mem_cons, List.not_mem_nil, or_false] at hk8442
      rcases hk8442 with rfl | rfl
      ·skip
       have hS845 : Sep _ _ _ _ := hW843
       have e846 := hA842 1 (by decide)
       have e847 := hA842 2 (by decide)
       refine obl rfl ?_
       have hi848 : k < l216.length := (by first | omega | (simp only [zq]; omega))
       exact zj (k := 10) (i := k) Tryd.underlying47 Tryd.sizeOf59 e846 (RdS.base (RdS.base hrd28 hB601) hB615).sl e847 hi848 (fun vals' hv _ => ⟨rfl, hv⟩)
      ·skip
       obtain ⟨b799, he802, hS849⟩ := hW843
       have e850 := hA842 1 (by decide)
       have e851 := hA842 2 (by decide)
       refine obl rfl ?_
       have hi852 : k < l216.length := (by first | omega | (simp only [zq]; omega))
       exact zj (k := 10) (i := k) Tryd.underlying47 Tryd.sizeOf59 e850 (RdS.base (RdS.base hrd28 hB601) hB615).sl e851 hi852 (fun vals' hv _ => ⟨rfl, hv⟩)
     ·intro k853 vals w854 hk857 hW856 hA855
      have e858 := hA855 3 (by decide)
      refine obl rfl ?_
      exact xw e858 (fun vals' hv _ => ⟨rfl, hv⟩)
     ·intro k859 vals w860 hk863 hW862 hA861
      have hk8632 : k859 ∈ [0, 2] := hk863
      simp only [List.mem_cons, List.not_mem_nil, or_false] at hk8632
      rcases hk8632 with rfl | rfl
      ·skip
       have hS864 : Sep _ _ _ _ := hW862
       have e865 := hA861 4 (by decide)
       refine obl rfl ?_
       have hi867 : k < l216.length := (by first | omega | (simp only [zq]; omega))
       obtain ⟨hce866, hde866_0, hoke866⟩ := (RdS.base (RdS.base hrd28 hB601) hB615).ev hi867
       rw [← zl default hi867] at hce866 hde866_0 hoke866
       have hsm868 : ((l216.getD k default).deps).length * 8 ≤ 140737488355328 := hde866_0.small
       have hcw869 := hS864.cells hce866 ((RdS.base (RdS.base hrd28 hB601) hB615).foot (ne_of_lt hi867))
       exact zf (v := .int .i64 ((l216.getD k default).typ)) Tryd.isAgg3 e865 (hcw869.get (j := 4) rfl) (fun vals' hv _ => ⟨rfl, hv⟩)
      ·skip
       obtain ⟨b799, he802, hS870⟩ := hW862
       have e871 := hA861 4 (by decide)
       refine obl rfl ?_
       have hi873 : k < l216.length := (by first | omega | (simp only [zq]; omega))
       obtain ⟨hce872, hde872_0, hoke872⟩ := (RdS.base (RdS.base hrd28 hB601) hB615).ev hi873
       rw [← zl default hi873] at hce872 hde872_0 hoke872
       have hsm874 : ((l216.getD k default).deps).length * 8 ≤ 140737488355328 := hde872_0.small
       have hcw875 := hS870.cells hce872 ((RdS.base (RdS.base hrd28 hB601) hB615).foot (ne_of_lt hi873))
       exact zf (v := .int .i64 ((l216.getD k default).typ)) Tryd.isAgg3 e871 (hcw875.get (j := 4) rfl) (fun vals' hv _ => ⟨rfl, hv⟩)
     ·intro k876 vals w877 hk880 hW879 hA878
      refine obl rfl ?_
      exact zb (v := v15) rfl (fun vals' hv _ => ⟨rfl, hv⟩)
     ·intro k881 vals w882 hk885 hW884 hA883
      refine obl rfl ?_
      exact zb (v := .int .i64 ((k : Nat) : Int)) rfl (fun vals' hv _ => ⟨rfl, hv⟩)
     ·intro k886 vals w887 hk890 hW889 hA888
      have hk8902 : k886 ∈ [0, 2] := hk890
      simp only [List.mem_cons, List.not_mem_nil, or_false] at hk8902
      rcases hk8902 with rfl | rfl
      ·skip
       have hS891 : Sep _ _ _ _ := hW889
       have e892 := hA888 6 (by decide)
       have e893 := hA888 7 (by decide)
       refine obl rfl ?_
       have hi894 : k < l216.length := (by first | omega | (simp only [zq]; omega))
       exact zj (k := 10) (i := k) Tryd.underlying47 Tryd.sizeOf59 e892 (RdS.base (RdS.base hrd28 hB601) hB615).sl e893 hi894 (fun vals' hv _ => ⟨rfl, hv⟩)
      ·skip
       obtain ⟨b799, he802, hS895⟩ := hW889
       have e896 := hA888 6 (by decide)
       have e897 := hA888 7 (by decide)
       refine obl rfl ?_
       have hi898 : k < l216.length := (by first | omega | (simp only [zq]; omega))
       exact zj (k := 10) (i := k) Tryd.underlying47 Tryd.sizeOf59 e896 (RdS.base (RdS.base hrd28 hB601) hB615).sl e897 hi898 (fun vals' hv _ => ⟨rfl, hv⟩)
     ·intro k899 vals w900 hk903 hW902 hA901
      have e904 := hA901 8 (by decide)
      refine obl rfl ?_
      exact xT e904 (fun vals' hv _ => ⟨rfl, hv⟩)
     ·intro k905 vals w906 hk909 hW908 hA907
      have hk9092 : k905 ∈ [0, 2] := hk909
      simp only [List.mem_cons, List.not_mem_nil, or_false] at hk9092
      rcases hk9092 with rfl | rfl
      ·skip
       have hS910 : Sep _ _ _ _ := hW908
       have e911 := hA907 9 (by decide)
       refine obl rfl ?_
       have hi913 : k < l216.length := (by first | omega | (simp only [zq]; omega))
       obtain ⟨hce912, hde912_0, hoke912⟩ := (RdS.base (RdS.base hrd28 hB601) hB615).ev hi913
       rw [← zl default hi913] at hce912 hde912_0 hoke912
       have hsm914 : ((l216.getD k default).deps).length * 8 ≤ 140737488355328 := hde912_0.small
       have hcw915 := hS910.cells hce912 ((RdS.base (RdS.base hrd28 hB601) hB615).foot (ne_of_lt hi913))
       exact zf (v := .int .i64 ((l216.getD k default).agg)) Tryd.isAgg3 e911 (hcw915.get (j := 5) rfl) (fun vals' hv _ => ⟨rfl, hv⟩)
      ·skip
       obtain ⟨b799, he802, hS916⟩ := hW908
       have e917 := hA907 9 (by decide)
       refine obl rfl ?_
       have hi919 : k < l216.length := (by first | omega | (simp only [zq]; omega))
       obtain ⟨hce918, hde918_0, hoke918⟩ := (RdS.base (RdS.base hrd28 hB601) hB615).ev hi919
       rw [← zl default hi919] at hce918 hde918_0 hoke918
       have hsm920 : ((l216.getD k default).deps).length * 8 ≤ 140737488355328 := hde918_0.small
       have hcw921 := hS916.cells hce918 ((RdS.base (RdS.base hrd28 hB601) hB615).foot (ne_of_lt hi919))
       exact zf (v := .int .i64 ((l216.getD k default).agg)) Tryd.isAgg3 e917 (hcw921.get (j := 5) rfl) (fun vals' hv _ => ⟨rfl, hv⟩)
     ·intro k922 vals w923 hk926 hW925 hA924
      have hk9262 : k922 ∈ [0, 2] := hk926
      simp only [List.mem_cons, List.not_mem_nil, or_false] at hk9262
      rcases hk9262 with rfl | rfl
      ·skip
       have hS927 : Sep _ _ _ _ := hW925
       refine obl rfl ?_
       have e928 := hA924 0 (by decide)
       have e929 := hA924 5 (by decide)
       have e930 := hA924 10 (by decide)
       have hi932 : k < l216.length := (by first | omega | (simp only [zq]; omega))
       obtain ⟨hce931, hde931_0, hoke931⟩ := (RdS.base (RdS.base hrd28 hB601) hB615).ev hi932
       rw [← zl default hi932] at hce931 hde931_0 hoke931
       have hsm933 : ((l216.getD k default).deps).length * 8 ≤ 140737488355328 := hde931_0.small
       have hcw934 := hS927.cells hce931 ((RdS.base (RdS.base hrd28 hB601) hB615).foot (ne_of_lt hi932))
       have hS935 := hS927.mv2
       refine (zt (f := 32) (vals := [.pointer (some ⟨b576, 0, none⟩), .int .i64 ((l216.getD k default).typ), .int .i64 ((l216.getD k default).agg)]) (cap := []) rfl (yV ⟨e928, e929, e930, trivial⟩) Tryd.call32 (Za (ty := (l216.getD k default).typ) (no := (l216.getD k default).agg) hoke931.typ hoke931.agg hS935) ?_)
       rintro _ w937 ⟨v767, rfl, hS938⟩
       have hr939 := hS938.row (i := 1) rfl
       have hr939s : _ * 32 ≤ _ := hr939.2
       intro vals' hv hv'
       refine ⟨?_, trivial⟩
       show ∃ (v767 : Value), (vals' 11 = (.tuple #[.agg ((zY d (((l216.getD k default).typ), ((l216.getD k default).agg)) X).cells v767).toArray, .bool ((zi d X (((l216.getD k default).typ), ((l216.getD k default).agg))).isSome)] : Value)) ∧ Sep G612 w607 ((ViewO b576 d X X) :: (RwC v767 (stL d (((l216.getD k default).typ), ((l216.getD k default).agg)) X)) :: (RowE (α := Ent) (shr G612 w607) 62 v626 (swp Z q31)) :: (ViewO b587 d Z Z) :: (RowE (α := Ev) (shr G22 w19) 59 v548 (swp l216 q31)) :: (Blk b2 (d.cells dd0 dd1).toArray 25) :: Rs) w937
       exact ⟨v767, hv, hS938⟩
      ·skip
       obtain ⟨b799, he802, hS940⟩ := hW925
       refine obl rfl ?_
       have e941 := hA924 0 (by decide)
       have e942 := hA924 5 (by decide)
       have e943 := hA924 10 (by decide)
       have hi945 : k < l216.length := (by first | omega | (simp only [zq]; omega))
       obtain ⟨hce944, hde944_0, hoke944⟩ := (RdS.base (RdS.base hrd28 hB601) hB615).ev hi945
       rw [← zl default hi945] at hce944 hde944_0 hoke944
       have hsm946 : ((l216.getD k default).deps).length * 8 ≤ 140737488355328 := hde944_0.small
       have hcw947 := hS940.cells hce944 ((RdS.base (RdS.base hrd28 hB601) hB615).foot (ne_of_lt hi945))
       have hS948 := hS940.mv3
       refine (zt (f := 32) (vals := [.pointer (some ⟨b576, 0, none⟩), .int .i64 ((l216.getD k default).typ), .int .i64 ((l216.getD k default).agg)]) (cap := []) rfl (yV ⟨e941, e942, e943, trivial⟩) Tryd.call32 (Za (ty := (l216.getD k default).typ) (no := (l216.getD k default).agg) hoke944.typ hoke944.agg hS948) ?_)
       rintro _ w950 ⟨v767, rfl, hS951⟩
       have hr952 := hS951.row (i := 1) rfl
       have hr952s : _ * 32 ≤ _ := hr952.2
       have hS953 := hS951.mv2
       intro vals' hv hv'
       refine ⟨?_, trivial⟩
       show ∃ (v767 : Value) (b799 : Nat), (vals' 11 = (.tuple #[.agg ((zY d (((l216.getD k default).typ), ((l216.getD k default).agg)) X).cells v767).toArray, .bool ((zi d X (((l216.getD k default).typ), ((l216.getD k default).agg))).isSome)] : Value)) ∧ (vals' 15 = (.pointer (some ⟨b799, 0, none⟩) : Value)) ∧ Sep G612 w607 ((Blk b799 #[.int .i64 (0), (.slice none 0 0)] 68) :: (ViewO b576 d X X) :: (RwC v767 (stL d (((l216.getD k default).typ), ((l216.getD k default).agg)) X)) :: (RowE (α := Ent) (shr G612 w607) 62 v626 (swp Z q31)) :: (ViewO b587 d Z Z) :: (RowE (α := Ev) (shr G22 w19) 59 v548 (swp l216 q31)) :: (Blk b2 (d.cells dd0 dd1).toArray 25) :: Rs) w950
       exact ⟨v767, b799, hv, (by rw [hv' 15 (by decide)]; exact he802), hS953⟩
     ·intro k954 vals w955 hk958 hW957 hA956
      have hk9582 : k954 ∈ [1, 3] := hk958
      simp only [List.mem_cons, List.not_mem_nil, or_false] at hk9582
      rcases hk9582 with rfl | rfl
      ·skip
       obtain ⟨v767, he771, hS959⟩ := hW957
       refine obl rfl ?_
       refine zb (v := .tuple #[.agg ((zY d (((l216.getD k default).typ), ((l216.getD k default).agg)) X).cells v767).toArray, .bool ((zi d X (((l216.getD k default).typ), ((l216.getD k default).agg))).isSome)]) he771 (fun vals' hv hv' => ⟨rfl, ?_⟩)
       intro v767q hq0
       rw [hv' 11 (by decide)] at hq0; cases he771.symm.trans hq0
       exact hv
      ·skip
       obtain ⟨v767, b799, he771, he802, hS960⟩ := hW957
       refine obl rfl ?_
       refine zb (v := .tuple #[.agg ((zY d (((l216.getD k default).typ), ((l216.getD k default).agg)) X).cells v767).toArray, .bool ((zi d X (((l216.getD k default).typ), ((l216.getD k default).agg))).isSome)]) he771 (fun vals' hv hv' => ⟨rfl, ?_⟩)
       intro v767q hq0
       rw [hv' 11 (by decide)] at hq0; cases he771.symm.trans hq0
       exact hv
     ·intro k961 vals w962 hk965 hW964 hA963
      have hk9652 : k961 ∈ [1, 3] := hk965
      simp only [List.mem_cons, List.not_mem_nil, or_false] at hk9652
      rcases hk9652 with rfl | rfl
      ·skip
       obtain ⟨v767, he771, hS966⟩ := hW964
       have e967 : vals 12 = (.tuple #[.agg ((zY d (((l216.getD k default).typ), ((l216.getD k default).agg)) X).cells v767).toArray, .bool ((zi d X (((l216.getD k default).typ), ((l216.getD k default).agg))).isSome)] : Value) := hA963 12 (by decide) v767 he771
       refine obl rfl ?_
       refine zA (vs := [.agg ((zY d (((l216.getD k default).typ), ((l216.getD k default).agg)) X).cells v767).toArray, .bool ((zi d X (((l216.getD k default).typ), ((l216.getD k default).agg))).isSome)]) (i := 0) (v := .agg ((zY d (((l216.getD k default).typ), ((l216.getD k default).agg)) X).cells v767).toArray) e967 rfl (fun vals' hv hv' => ⟨rfl, ?_⟩)
       intro v767q hq0
       rw [hv' 11 (by decide)] at hq0; cases he771.symm.trans hq0
       exact hv
      ·skip
       obtain ⟨v767, b799, he771, he802, hS968⟩ := hW964
       have e969 : vals 12 = (.tuple #[.agg ((zY d (((l216.getD k default).typ), ((l216.getD k default).agg)) X).cells v767).toArray, .bool ((zi d X (((l216.getD k default).typ), ((l216.getD k default).agg))).isSome)] : Value) := hA963 12 (by decide) v767 he771
       refine obl rfl ?_
       refine zA (vs := [.agg ((zY d (((l216.getD k default).typ), ((l216.getD k default).agg)) X).cells v767).toArray, .bool ((zi d X (((l216.getD k default).typ), ((l216.getD k default).agg))).isSome)]) (i := 0) (v := .agg ((zY d (((l216.getD k default).typ), ((l216.getD k default).agg)) X).cells v767).toArray) e969 rfl (fun vals' hv hv' => ⟨rfl, ?_⟩)
       intro v767q hq0
       rw [hv' 11 (by decide)] at hq0; cases he771.symm.trans hq0
       exact hv
     ·intro k970 vals w971 hk974 hW973 hA972
      have hk9742 : k970 ∈ [1, 3, 7] := hk974
      simp only [List.mem_cons, List.not_mem_nil, or_false] at hk9742
      rcases hk9742 with rfl | rfl | rfl
      ·skip
       obtain ⟨v767, he771, hS975⟩ := hW973
       have e976 : vals 12 = (.tuple #[.agg ((zY d (((l216.getD k default).typ), ((l216.getD k default).agg)) X).cells v767).toArray, .bool ((zi d X (((l216.getD k default).typ), ((l216.getD k default).agg))).isSome)] : Value) := hA972 12 (by decide) v767 he771
       refine obl rfl ?_
       exact zA (vs := [.agg ((zY d (((l216.getD k default).typ), ((l216.getD k default).agg)) X).cells v767).toArray, .bool ((zi d X (((l216.getD k default).typ), ((l216.getD k default).agg))).isSome)]) (i := 1) (v := .bool ((zi d X (((l216.getD k default).typ), ((l216.getD k default).agg))).isSome)) e976 rfl (fun vals' hv _ => ⟨rfl, hv⟩)
      ·skip
       obtain ⟨v767, b799, he771, he802, hS977⟩ := hW973
       have e978 : vals 12 = (.tuple #[.agg ((zY d (((l216.getD k default).typ), ((l216.getD k default).agg)) X).cells v767).toArray, .bool ((zi d X (((l216.getD k default).typ), ((l216.getD k default).agg))).isSome)] : Value) := hA972 12 (by decide) v767 he771
       refine obl rfl ?_
       exact zA (vs := [.agg ((zY d (((l216.getD k default).typ), ((l216.getD k default).agg)) X).cells v767).toArray, .bool ((zi d X (((l216.getD k default).typ), ((l216.getD k default).agg))).isSome)]) (i := 1) (v := .bool ((zi d X (((l216.getD k default).typ), ((l216.getD k default).agg))).isSome)) e978 rfl (fun vals' hv _ => ⟨rfl, hv⟩)
      ·skip
       obtain ⟨v767, b799, he771, he802, hS979⟩ := hW973
       have e980 : vals 12 = (.tuple #[.agg ((zY d (((l216.getD k default).typ), ((l216.getD k default).agg)) X).cells v767).toArray, .bool ((zi d X (((l216.getD k default).typ), ((l216.getD k default).agg))).isSome)] : Value) := hA972 12 (by decide) v767 he771
       refine obl rfl ?_
       exact zA (vs := [.agg ((zY d (((l216.getD k default).typ), ((l216.getD k default).agg)) X).cells v767).toArray, .bool ((zi d X (((l216.getD k default).typ), ((l216.getD k default).agg))).isSome)]) (i := 1) (v := .bool ((zi d X (((l216.getD k default).typ), ((l216.getD k default).agg))).isSome)) e980 rfl (fun vals' hv _ => ⟨rfl, hv⟩)
     ·intro k981 vals w982 hk985 hW984 hA983
      have hk9852 : k981 ∈ [0, 1] := hk985
      simp only [List.mem_cons, List.not_mem_nil, or_false] at hk9852
      rcases hk9852 with rfl | rfl
      ·skip
       have hS986 : Sep _ _ _ _ := hW984
       refine obl rfl ?_
       refine (zH Tryd.zeroValue68 ?_)
       intro w989 b799 hn987
       have hS990 := hS986.new hn987
       intro vals' hv hv'
       refine ⟨?_, trivial⟩
       show ∃ (b799 : Nat), (vals' 15 = (.pointer (some ⟨b799, 0, none⟩) : Value)) ∧ Sep G612 w607 ((Blk b799 #[.int .i64 (0), (.slice none 0 0)] 68) :: (RowE (α := Ent) (shr G612 w607) 62 v626 (swp Z q31)) :: (ViewO b587 d Z Z) :: (ViewO b576 d X X) :: (RowE (α := Ev) (shr G22 w19) 59 v548 (swp l216 q31)) :: (Blk b2 (d.cells dd0 dd1).toArray 25) :: Rs) w989
       exact ⟨b799, hv, hS990⟩
      ·skip
       obtain ⟨v767, he771, hS991⟩ := hW984
       refine obl rfl ?_
       refine (zH Tryd.zeroValue68 ?_)
       intro w994 b799 hn992
       have hS995 := hS991.new hn992
       intro vals' hv hv'
       refine ⟨?_, trivial⟩
       show ∃ (v767 : Value) (b799 : Nat), (vals' 11 = (.tuple #[.agg ((zY d (((l216.getD k default).typ), ((l216.getD k default).agg)) X).cells v767).toArray, .bool ((zi d X (((l216.getD k default).typ), ((l216.getD k default).agg))).isSome)] : Value)) ∧ (vals' 15 = (.pointer (some ⟨b799, 0, none⟩) : Value)) ∧ Sep G612 w607 ((Blk b799 #[.int .i64 (0), (.slice none 0 0)] 68) :: (ViewO b576 d X X) :: (RwC v767 (stL d (((l216.getD k default).typ), ((l216.getD k default).agg)) X)) :: (RowE (α := Ent) (shr G612 w607) 62 v626 (swp Z q31)) :: (ViewO b587 d Z Z) :: (RowE (α := Ev) (shr G22 w19) 59 v548 (swp l216 q31)) :: (Blk b2 (d.cells dd0 dd1).toArray 25) :: Rs) w994
       exact ⟨v767, b799, (by rw [hv' 11 (by decide)]; exact he771), hv, hS995⟩
     ·intro k996 vals w997 hk1000 hW999 hA998
      have hk10002 : k996 ∈ [3] := hk1000
      simp only [List.mem_cons, List.not_mem_nil, or_false] at hk10002
      subst hk10002
      obtain ⟨v767, b799, he771, he802, hS1001⟩ := hW999
      refine obl rfl ?_
      have e1002 : vals 13 = (.agg ((zY d (((l216.getD k default).typ), ((l216.getD k default).agg)) X).cells v767).toArray : Value) := hA998 13 (by decide) v767 he771
      have hr1005 := hS1001.row (i := 2) rfl
      have hr1005s : _ * 32 ≤ _ := hr1005.2
      refine (zF (v := .agg ((zY d (((l216.getD k default).typ), ((l216.getD k default).agg)) X).cells v767).toArray) (c' := ((zY d (((l216.getD k default).typ), ((l216.getD k default).agg)) X).cells v767).toArray) Tryd.sizeOf68 he802 e1002 (hS1001.blk (i := 0) rfl) (yp ⟨rfl, hr1005.1.one, trivial⟩) (Nat.le_of_ble_eq_true rfl) rfl ?_)
      intro w1003 hp1004
      have hS1006 := hS1001.pt0 hp1004
      intro vals' hv hv'
      refine ⟨?_, trivial⟩
      show ∃ (v767 : Value) (b799 : Nat), (vals' 11 = (.tuple #[.agg ((zY d (((l216.getD k default).typ), ((l216.getD k default).agg)) X).cells v767).toArray, .bool ((zi d X (((l216.getD k default).typ), ((l216.getD k default).agg))).isSome)] : Value)) ∧ (vals' 15 = (.pointer (some ⟨b799, 0, none⟩) : Value)) ∧ Sep G612 w607 ((Blk b799 ((zY d (((l216.getD k default).typ), ((l216.getD k default).agg)) X).cells v767).toArray 68) :: (ViewO b576 d X X) :: (RwC v767 (stL d (((l216.getD k default).typ), ((l216.getD k default).agg)) X)) :: (RowE (α := Ent) (shr G612 w607) 62 v626 (swp Z q31)) :: (ViewO b587 d Z Z) :: (RowE (α := Ev) (shr G22 w19) 59 v548 (swp l216 q31)) :: (Blk b2 (d.cells dd0 dd1).toArray 25) :: Rs) w1003
      exact ⟨v767, b799, (by rw [hv' 11 (by decide)]; exact he771), (by rw [hv' 15 (by decide)]; exact he802), hS1006⟩
     ·intro k1007 vals w1008 hk1011 hW1010 hA1009
      have e1012 := hA1009 14 (by decide)
      refine obl rfl ?_
      exact zd (v := .bool ((zi d X (((l216.getD k default).typ), ((l216.getD k default).agg))).isSome)) e1012 (fun vals' hv _ => ⟨rfl, hv⟩)
     intro vals w1013 hW1014 hA1015
     obtain ⟨v767, b799, he771, he802, hS1016⟩ := hW1014
     have e1017 := hA1015 17 (by decide)
     refine yi (kv := [(2, v15), (4, .pointer (some ⟨b2, 0, none⟩)), (10, .pointer (some ⟨b576, 0, none⟩)), (11, .pointer (some ⟨b587, 0, none⟩)), (15, .int .i64 ((k : Nat) : Int)), (135, .int .i64 ((k : Nat) : Int)), (136, v15), (137, .int .i64 ((l216.length : Nat) : Int)), (138, .bool true), (16, .pointer (some ⟨b799, 0, none⟩)), (17, .bool ((zi d X (((l216.getD k default).typ), ((l216.getD k default).agg))).isSome))]) ⟨rfl, rfl, rfl, rfl, rfl, rfl, rfl, rfl, rfl, (by exact he802), (by exact e1017), trivial⟩ (fun ρw1013 => ?_)
     refine zg ?_
     refine ze ?_
     refine xY ((fun TT pp0 pp1 pp2 pp3 pp4 => WF [fun vals wq => Sep G612 w607 (pp0 :: pp1 :: pp2 :: pp3 :: pp4 :: TT) wq, fun vals wq => ∃ (v1109 : Value), (vals 11 = (.tuple #[.agg ((zY d (((l216.getD k default).typ), ((l216.getD k default).agg)) Z).cells v1109).toArray, .bool ((zi d Z (((l216.getD k default).typ), ((l216.getD k default).agg))).isSome)] : Value)) ∧ Sep G612 w607 (pp4 :: (RwC v1109 (stL d (((l216.getD k default).typ), ((l216.getD k default).agg)) Z)) :: pp0 :: pp1 :: pp2 :: pp3 :: TT) wq, fun vals wq => ∃ (b1141 : Nat), (vals 15 = (.pointer (some ⟨b1141, 0, none⟩) : Value)) ∧ Sep G612 w607 ((Blk b1141 #[.int .i64 (0), (.slice none 0 0)] 68) :: pp0 :: pp1 :: pp2 :: pp3 :: pp4 :: TT) wq, fun vals wq => ∃ (v1109 : Value) (b1141 : Nat), (vals 11 = (.tuple #[.agg ((zY d (((l216.getD k default).typ), ((l216.getD k default).agg)) Z).cells v1109).toArray, .bool ((zi d Z (((l216.getD k default).typ), ((l216.getD k default).agg))).isSome)] : Value)) ∧ (vals 15 = (.pointer (some ⟨b1141, 0, none⟩) : Value)) ∧ Sep G612 w607 ((Blk b1141 #[.int .i64 (0), (.slice none 0 0)] 68) :: pp4 :: (RwC v1109 (stL d (((l216.getD k default).typ), ((l216.getD k default).agg)) Z)) :: pp0 :: pp1 :: pp2 :: pp3 :: TT) wq, fun _ _ => True, fun _ _ => True, fun _ _ => True, fun vals wq => ∃ (v1109 : Value) (b1141 : Nat), (vals 11 = (.tuple #[.agg ((zY d (((l216.getD k default).typ), ((l216.getD k default).agg)) Z).cells v1109).toArray, .bool ((zi d Z (((l216.getD k default).typ), ((l216.getD k default).agg))).isSome)] : Value)) ∧ (vals 15 = (.pointer (some ⟨b1141, 0, none⟩) : Value)) ∧ Sep G612 w607 ((Blk b1141 ((zY d (((l216.getD k default).typ), ((l216.getD k default).agg)) Z).cells v1109).toArray 68) :: pp4 :: (RwC v1109 (stL d (((l216.getD k default).typ), ((l216.getD k default).agg)) Z)) :: pp0 :: pp1 :: pp2 :: pp3 :: TT) wq]) ((RowE (α := Ev) (shr G22 w19) 59 v548 (swp l216 q31)) :: (Blk b2 (d.cells dd0 dd1).toArray 25) :: Rs) (Blk b799 ((zY d (((l216.getD k default).typ), ((l216.getD k default).agg)) X).cells v767).toArray 68) (ViewO b576 d X X) (RwC v767 (stL d (((l216.getD k default).typ), ((l216.getD k default).agg)) X)) (RowE (α := Ent) (shr G612 w607) 62 v626 (swp Z q31)) (ViewO b587 d Z Z)) (AF [Vl 0 (.pointer (some ⟨b587, 0, none⟩)), Vl 1 (v15), Vl 2 (.int .i64 ((k : Nat) : Int)), Vl 3 (.pointer (some ⟨sb v15, so v15 + k * 10, none⟩)), Vl 4 (.pointer (some ⟨sb v15, so v15 + k * 10 + 4, none⟩)), Vl 5 (.int .i64 ((l216.getD k default).typ)), Vl 6 (v15), Vl 7 (.int .i64 ((k : Nat) : Int)), Vl 8 (.pointer (some ⟨sb v15, so v15 + k * 10, none⟩)), Vl 9 (.pointer (some ⟨sb v15, so v15 + k * 10 + 5, none⟩)), Vl 10 (.int .i64 ((l216.getD k default).agg)), fun _ => True, fun vals => ∀ (v1109 : Value), vals 11 = (.tuple #[.agg ((zY d (((l216.getD k default).typ), ((l216.getD k default).agg)) Z).cells v1109).toArray, .bool ((zi d Z (((l216.getD k default).typ), ((l216.getD k default).agg))).isSome)] : Value) → vals 12 = (.tuple #[.agg ((zY d (((l216.getD k default).typ), ((l216.getD k default).agg)) Z).cells v1109).toArray, .bool ((zi d Z (((l216.getD k default).typ), ((l216.getD k default).agg))).isSome)] : Value), fun vals => ∀ (v1109 : Value), vals 11 = (.tuple #[.agg ((zY d (((l216.getD k default).typ), ((l216.getD k default).agg)) Z).cells v1109).toArray, .bool ((zi d Z (((l216.getD k default).typ), ((l216.getD k default).agg))).isSome)] : Value) → vals 13 = (.agg ((zY d (((l216.getD k default).typ), ((l216.getD k default).agg)) Z).cells v1109).toArray : Value), Vl 14 (.bool ((zi d Z (((l216.getD k default).typ), ((l216.getD k default).agg))).isSome)), fun _ => True, fun _ => True, Vl 17 (.bool ((zi d Z (((l216.getD k default).typ), ((l216.getD k default).agg))).isSome))]) [[], [], [], [1, 2], [1, 2, 3], [1, 2, 3, 4], [], [], [6, 7], [6, 7, 8], [6, 7, 8, 9], [0, 1, 2, 3, 4, 5, 6, 7, 8, 9, 10], [0, 1, 2, 3, 4, 5, 6, 7, 8, 9, 10, 11], [0, 1, 2, 3, 4, 5, 6, 7, 8, 9, 10, 11, 12], [0, 1, 2, 3, 4, 5, 6, 7, 8, 9, 10, 11, 12], [], [0, 1, 2, 3, 4, 5, 6, 7, 8, 9, 10, 11, 12, 13, 15], [0, 1, 2, 3, 4, 5, 6, 7, 8, 9, 10, 11, 12, 13, 14, 15, 16]] [11, 15, 16] [[0, 2], [0, 2], [0, 2], [0, 2], [0, 2], [0, 2], [0, 2], [0, 2], [0, 2], [0, 2], [0, 2], [0, 2], [1, 3], [1, 3], [1, 3, 7], [0, 1], [3], [7]] (by kernel_rfl) (by kernel_rfl) (by kernel_rfl) rfl (by kernel_rfl) (by kernel_rfl) (by decide) (fun _ h1 h2 h3 h4 _ => hS1016.same h1 h2 h3 h4) ?_ (yj ⟨dA, dA, dA, dA, dA, dA, dA, dA, dA, dA, dA, dT, fun vals vals' hv h => fun v1109 hq0 => (hv 12 (.inl rfl)).trans (h v1109 ((hv 11 (.inr (by decide))).symm.trans hq0)), fun vals vals' hv h => fun v1109 hq0 => (hv 13 (.inl rfl)).trans (h v1109 ((hv 11 (.inr (by decide))).symm.trans hq0)), dA, dT, dT, dA, trivial⟩) ⟨?_, ?_, ?_, ?_, ?_, ?_, ?_, ?_, ?_, ?_, ?_, ?_, ?_, ?_, ?_, ?_, ?_, ?_, trivial⟩ ?_
     ·intro k vals vals' w hv h
      have e : ∀ j ∈ ([11, 15, 16] : List Nat), vals' j = vals j := hv
      match k, h with
      | 0, h => exact h
      | 1, h => exact (by simpa only [WF, List.getElem?_cons_zero, List.getElem?_cons_succ, e 11 (by decide)] using h)
      | 2, h => exact (by simpa only [WF, List.getElem?_cons_zero, List.getElem?_cons_succ, e 15 (by decide)] using h)
      | 3, h => exact (by simpa only [WF, List.getElem?_cons_zero, List.getElem?_cons_succ, e 11 (by decide), e 15 (by decide)] using h)
      | 4, h => exact h
      | 5, h => exact h
      | 6, h => exact h
      | 7, h => exact (by simpa only [WF, List.getElem?_cons_zero, List.getElem?_cons_succ, e 11 (by decide), e 15 (by decide)] using h)
      | _ + 8, _ => trivial
     ·intro k1167 vals w1168 hk1171 hW1170 hA1169
      refine obl rfl ?_
      exact zb (v := .pointer (some ⟨b587, 0, none⟩)) rfl (fun vals' hv _ => ⟨rfl, hv⟩)
     ·intro k1172 vals w1173 hk1176 hW1175 hA1174
      refine obl rfl ?_
      exact zb (v := v15) rfl (fun vals' hv _ => ⟨rfl, hv⟩)
     ·intro k1177 vals w1178 hk1181 hW1180 hA1179
      refine obl rfl ?_
      exact zb (v := .int .i64 ((k : Nat) : Int)) rfl (fun vals' hv _ => ⟨rfl, hv⟩)
     ·intro k1182 vals w1183 hk1186 hW1185 hA1184
      have hk11862 : k1182 ∈ [0, 2] := hk1186
      simp only [List.mem_cons, List.not_mem_nil, or_false] at hk11862
      rcases hk11862 with rfl | rfl
      ·skip
       have hS1187 : Sep _ _ _ _ := hW1185
       have e1188 := hA1184 1 (by decide)
       have e1189 := hA1184 2 (by decide)
       refine obl rfl ?_
       have hi1190 : k < l216.length := (by first | omega | (simp only [zq]; omega))
       exact zj (k := 10) (i := k) Tryd.underlying47 Tryd.sizeOf59 e1188 (RdS.base (RdS.base hrd28 hB601) hB615).sl e1189 hi1190 (fun vals' hv _ => ⟨rfl, hv⟩)
      ·skip
       obtain ⟨b1141, he1144, hS1191⟩ := hW1185
       have e1192 := hA1184 1 (by decide)
       have e1193 := hA1184 2 (by decide)
       refine obl rfl ?_
       have hi1194 : k < l216.length := (by first | omega | (simp only [zq]; omega))
       exact zj (k := 10) (i := k) Tryd.underlying47 Tryd.sizeOf59 e1192 (RdS.base (RdS.base hrd28 hB601) hB615).sl e1193 hi1194 (fun vals' hv _ => ⟨rfl, hv⟩)
     ·intro k1195 vals w1196 hk1199 hW1198 hA1197
      have e1200 := hA1197 3 (by decide)
      refine obl rfl ?_
      exact xw e1200 (fun vals' hv _ => ⟨rfl, hv⟩)
     ·intro k1201 vals w1202 hk1205 hW1204 hA1203
      have hk12052 : k1201 ∈ [0, 2] := hk1205
      simp only [List.mem_cons, List.not_mem_nil, or_false] at hk12052
      rcases hk12052 with rfl | rfl
      ·skip
       have hS1206 : Sep _ _ _ _ := hW1204
       have e1207 := hA1203 4 (by decide)
       refine obl rfl ?_
       have hi1209 : k < l216.length := (by first | omega | (simp only [zq]; omega))
       obtain ⟨hce1208, hde1208_0, hoke1208⟩ := (RdS.base (RdS.base hrd28 hB601) hB615).ev hi1209
       rw [← zl default hi1209] at hce1208 hde1208_0 hoke1208
       have hsm1210 : ((l216.getD k default).deps).length * 8 ≤ 140737488355328 := hde1208_0.small
       have hcw1211 := hS1206.cells hce1208 ((RdS.base (RdS.base hrd28 hB601) hB615).foot (ne_of_lt hi1209))
       exact zf (v := .int .i64 ((l216.getD k default).typ)) Tryd.isAgg3 e1207 (hcw1211.get (j := 4) rfl) (fun vals' hv _ => ⟨rfl, hv⟩)
      ·skip
       obtain ⟨b1141, he1144, hS1212⟩ := hW1204
       have e1213 := hA1203 4 (by decide)
       refine obl rfl ?_
       have hi1215 : k < l216.length := (by first | omega | (simp only [zq]; omega))
       obtain ⟨hce1214, hde1214_0, hoke1214⟩ := (RdS.base (RdS.base hrd28 hB601) hB615).ev hi1215
       rw [← zl default hi1215] at hce1214 hde1214_0 hoke1214
       have hsm1216 : ((l216.getD k default).deps).length * 8 ≤ 140737488355328 := hde1214_0.small
       have hcw1217 := hS1212.cells hce1214 ((RdS.base (RdS.base hrd28 hB601) hB615).foot (ne_of_lt hi1215))
       exact zf (v := .int .i64 ((l216.getD k default).typ)) Tryd.isAgg3 e1213 (hcw1217.get (j := 4) rfl) (fun vals' hv _ => ⟨rfl, hv⟩)
     ·intro k1218 vals w1219 hk1222 hW1221 hA1220
      refine obl rfl ?_
      exact zb (v := v15) rfl (fun vals' hv _ => ⟨rfl, hv⟩)
     ·intro k1223 vals w1224 hk1227 hW1226 hA1225
      refine obl rfl ?_
      exact zb (v := .int .i64 ((k : Nat) : Int)) rfl (fun vals' hv _ => ⟨rfl, hv⟩)
     ·intro k1228 vals w1229 hk1232 hW1231 hA1230
      have hk12322 : k1228 ∈ [0, 2] := hk1232
      simp only [List.mem_cons, List.not_mem_nil, or_false] at hk12322
      rcases hk12322 with rfl | rfl
      ·skip
       have hS1233 : Sep _ _ _ _ := hW1231
       have e1234 := hA1230 6 (by decide)
       have e1235 := hA1230 7 (by decide)
       refine obl rfl ?_
       have hi1236 : k < l216.length := (by first | omega | (simp only [zq]; omega))
       exact zj (k := 10) (i := k) Tryd.underlying47 Tryd.sizeOf59 e1234 (RdS.base (RdS.base hrd28 hB601) hB615).sl e1235 hi1236 (fun vals' hv _ => ⟨rfl, hv⟩)
      ·skip
       obtain ⟨b1141, he1144, hS1237⟩ := hW1231
       have e1238 := hA1230 6 (by decide)
       have e1239 := hA1230 7 (by decide)
       refine obl rfl ?_
       have hi1240 : k < l216.length := (by first | omega | (simp only [zq]; omega))
       exact zj (k := 10) (i := k) Tryd.underlying47 Tryd.sizeOf59 e1238 (RdS.base (RdS.base hrd28 hB601) hB615).sl e1239 hi1240 (fun vals' hv _ => ⟨rfl, hv⟩)
     ·intro k1241 vals w1242 hk1245 hW1244 hA1243
      have e1246 := hA1243 8 (by decide)
      refine obl rfl ?_
      exact xT e1246 (fun vals' hv _ => ⟨rfl, hv⟩)
     ·intro k1247 vals w1248 hk1251 hW1250 hA1249
      have hk12512 : k1247 ∈ [0, 2] := hk1251
      simp only [List.mem_cons, List.not_mem_nil, or_false] at hk12512
      rcases hk12512 with rfl | rfl
      ·skip
       have hS1252 : Sep _ _ _ _ := hW1250
       have e1253 := hA1249 9 (by decide)
       refine obl rfl ?_
       have hi1255 : k < l216.length := (by first | omega | (simp only [zq]; omega))
       obtain ⟨hce1254, hde1254_0, hoke1254⟩ := (RdS.base (RdS.base hrd28 hB601) hB615).ev hi1255
       rw [← zl default hi1255] at hce1254 hde1254_0 hoke1254
       have hsm1256 : ((l216.getD k default).deps).length * 8 ≤ 140737488355328 := hde1254_0.small
       have hcw1257 := hS1252.cells hce1254 ((RdS.base (RdS.base hrd28 hB601) hB615).foot (ne_of_lt hi1255))
       exact zf (v := .int .i64 ((l216.getD k default).agg)) Tryd.isAgg3 e1253 (hcw1257.get (j := 5) rfl) (fun vals' hv _ => ⟨rfl, hv⟩)
      ·skip
       obtain ⟨b1141, he1144, hS1258⟩ := hW1250
       have e1259 := hA1249 9 (by decide)
       refine obl rfl ?_
       have hi1261 : k < l216.length := (by first | omega | (simp only [zq]; omega))
       obtain ⟨hce1260, hde1260_0, hoke1260⟩ := (RdS.base (RdS.base hrd28 hB601) hB615).ev hi1261
       rw [← zl default hi1261] at hce1260 hde1260_0 hoke1260
       have hsm1262 : ((l216.getD k default).deps).length * 8 ≤ 140737488355328 := hde1260_0.small
       have hcw1263 := hS1258.cells hce1260 ((RdS.base (RdS.base hrd28 hB601) hB615).foot (ne_of_lt hi1261))
       exact zf (v := .int .i64 ((l216.getD k default).agg)) Tryd.isAgg3 e1259 (hcw1263.get (j := 5) rfl) (fun vals' hv _ => ⟨rfl, hv⟩)
     ·intro k1264 vals w1265 hk1268 hW1267 hA1266
      have hk12682 : k1264 ∈ [0, 2] := hk1268
      simp only [List.mem_cons, List.not_mem_nil, or_false] at hk12682
      rcases hk12682 with rfl | rfl
      ·skip
       have hS1269 : Sep _ _ _ _ := hW1267
       refine obl rfl ?_
       have e1270 := hA1266 0 (by decide)
       have e1271 := hA1266 5 (by decide)
       have e1272 := hA1266 10 (by decide)
       have hi1274 : k < l216.length := (by first | omega | (simp only [zq]; omega))
       obtain ⟨hce1273, hde1273_0, hoke1273⟩ := (RdS.base (RdS.base hrd28 hB601) hB615).ev hi1274
       rw [← zl default hi1274] at hce1273 hde1273_0 hoke1273
       have hsm1275 : ((l216.getD k default).deps).length * 8 ≤ 140737488355328 := hde1273_0.small
       have hcw1276 := hS1269.cells hce1273 ((RdS.base (RdS.base hrd28 hB601) hB615).foot (ne_of_lt hi1274))
       have hS1277 := hS1269.mv4
       refine (zt (f := 32) (vals := [.pointer (some ⟨b587, 0, none⟩), .int .i64 ((l216.getD k default).typ), .int .i64 ((l216.getD k default).agg)]) (cap := []) rfl (yV ⟨e1270, e1271, e1272, trivial⟩) Tryd.call32 (Za (ty := (l216.getD k default).typ) (no := (l216.getD k default).agg) hoke1273.typ hoke1273.agg hS1277) ?_)
       rintro _ w1279 ⟨v1109, rfl, hS1280⟩
       have hr1281 := hS1280.row (i := 1) rfl
       have hr1281s : _ * 32 ≤ _ := hr1281.2
       intro vals' hv hv'
       refine ⟨?_, trivial⟩
       show ∃ (v1109 : Value), (vals' 11 = (.tuple #[.agg ((zY d (((l216.getD k default).typ), ((l216.getD k default).agg)) Z).cells v1109).toArray, .bool ((zi d Z (((l216.getD k default).typ), ((l216.getD k default).agg))).isSome)] : Value)) ∧ Sep G612 w607 ((ViewO b587 d Z Z) :: (RwC v1109 (stL d (((l216.getD k default).typ), ((l216.getD k default).agg)) Z)) :: (Blk b799 ((zY d (((l216.getD k default).typ), ((l216.getD k default).agg)) X).cells v767).toArray 68) :: (ViewO b576 d X X) :: (RwC v767 (stL d (((l216.getD k default).typ), ((l216.getD k default).agg)) X)) :: (RowE (α := Ent) (shr G612 w607) 62 v626 (swp Z q31)) :: (RowE (α := Ev) (shr G22 w19) 59 v548 (swp l216 q31)) :: (Blk b2 (d.cells dd0 dd1).toArray 25) :: Rs) w1279
       exact ⟨v1109, hv, hS1280⟩
      ·skip
       obtain ⟨b1141, he1144, hS1282⟩ := hW1267
       refine obl rfl ?_
       have e1283 := hA1266 0 (by decide)
       have e1284 := hA1266 5 (by decide)
       have e1285 := hA1266 10 (by decide)
       have hi1287 : k < l216.length := (by first | omega | (simp only [zq]; omega))
       obtain ⟨hce1286, hde1286_0, hoke1286⟩ := (RdS.base (RdS.base hrd28 hB601) hB615).ev hi1287
       rw [← zl default hi1287] at hce1286 hde1286_0 hoke1286
       have hsm1288 : ((l216.getD k default).deps).length * 8 ≤ 140737488355328 := hde1286_0.small
       have hcw1289 := hS1282.cells hce1286 ((RdS.base (RdS.base hrd28 hB601) hB615).foot (ne_of_lt hi1287))
       have hS1290 := hS1282.mv5
       refine (zt (f := 32) (vals := [.pointer (some ⟨b587, 0, none⟩), .int .i64 ((l216.getD k default).typ), .int .i64 ((l216.getD k default).agg)]) (cap := []) rfl (yV ⟨e1283, e1284, e1285, trivial⟩) Tryd.call32 (Za (ty := (l216.getD k default).typ) (no := (l216.getD k default).agg) hoke1286.typ hoke1286.agg hS1290) ?_)
       rintro _ w1292 ⟨v1109, rfl, hS1293⟩
       have hr1294 := hS1293.row (i := 1) rfl
       have hr1294s : _ * 32 ≤ _ := hr1294.2
       have hS1295 := hS1293.mv2
       intro vals' hv hv'
       refine ⟨?_, trivial⟩
       show ∃ (v1109 : Value) (b1141 : Nat), (vals' 11 = (.tuple #[.agg ((zY d (((l216.getD k default).typ), ((l216.getD k default).agg)) Z).cells v1109).toArray, .bool ((zi d Z (((l216.getD k default).typ), ((l216.getD k default).agg))).isSome)] : Value)) ∧ (vals' 15 = (.pointer (some ⟨b1141, 0, none⟩) : Value)) ∧ Sep G612 w607 ((Blk b1141 #[.int .i64 (0), (.slice none 0 0)] 68) :: (ViewO b587 d Z Z) :: (RwC v1109 (stL d (((l216.getD k default).typ), ((l216.getD k default).agg)) Z)) :: (Blk b799 ((zY d (((l216.getD k default).typ), ((l216.getD k default).agg)) X).cells v767).toArray 68) :: (ViewO b576 d X X) :: (RwC v767 (stL d (((l216.getD k default).typ), ((l216.getD k default).agg)) X)) :: (RowE (α := Ent) (shr G612 w607) 62 v626 (swp Z q31)) :: (RowE (α := Ev) (shr G22 w19) 59 v548 (swp l216 q31)) :: (Blk b2 (d.cells dd0 dd1).toArray 25) :: Rs) w1292
       exact ⟨v1109, b1141, hv, (by rw [hv' 15 (by decide)]; exact he1144), hS1295⟩
     ·intro k1296 vals w1297 hk1300 hW1299 hA1298
      have hk13002 : k1296 ∈ [1, 3] := hk1300
      simp only [List.mem_cons, List.not_mem_nil, or_false] at hk13002
      rcases hk13002 with rfl | rfl
      ·skip
       obtain ⟨v1109, he1113, hS1301⟩ := hW1299
       refine obl rfl ?_
       refine zb (v := .tuple #[.agg ((zY d (((l216.getD k default).typ), ((l216.getD k default).agg)) Z).cells v1109).toArray, .bool ((zi d Z (((l216.getD k default).typ), ((l216.getD k default).agg))).isSome)]) he1113 (fun vals' hv hv' => ⟨rfl, ?_⟩)
       intro v1109q hq0
       rw [hv' 11 (by decide)] at hq0; cases he1113.symm.trans hq0
       exact hv
      ·skip
       obtain ⟨v1109, b1141, he1113, he1144, hS1302⟩ := hW1299
       refine obl rfl ?_
       refine zb (v := .tuple #[.agg ((zY d (((l216.getD k default).typ), ((l216.getD k default).agg)) Z).cells v1109).toArray, .bool ((zi d Z (((l216.getD k default).typ), ((l216.getD k default).agg))).isSome)]) he1113 (fun vals' hv hv' => ⟨rfl, ?_⟩)
       intro v1109q hq0
       rw [hv' 11 (by decide)] at hq0; cases he1113.symm.trans hq0
       exact hv
     ·intro k1303 vals w1304 hk1307 hW1306 hA1305
      have hk13072 : k1303 ∈ [1, 3] := hk1307
      simp only [List.mem_cons, List.not_mem_nil, or_false] at hk13072
      rcases hk13072 with rfl | rfl
      ·skip
       obtain ⟨v1109, he1113, hS1308⟩ := hW1306
       have e1309 : vals 12 = (.tuple #[.agg ((zY d (((l216.getD k default).typ), ((l216.getD k default).agg)) Z).cells v1109).toArray, .bool ((zi d Z (((l216.getD k default).typ), ((l216.getD k default).agg))).isSome)] : Value) := hA1305 12 (by decide) v1109 he1113
       refine obl rfl ?_
       refine zA (vs := [.agg ((zY d (((l216.getD k default).typ), ((l216.getD k default).agg)) Z).cells v1109).toArray, .bool ((zi d Z (((l216.getD k default).typ), ((l216.getD k default).agg))).isSome)]) (i := 0) (v := .agg ((zY d (((l216.getD k default).typ), ((l216.getD k default).agg)) Z).cells v1109).toArray) e1309 rfl (fun vals' hv hv' => ⟨rfl, ?_⟩)
       intro v1109q hq0
       rw [hv' 11 (by decide)] at hq0; cases he1113.symm.trans hq0
       exact hv
      ·skip
       obtain ⟨v1109, b1141, he1113, he1144, hS1310⟩ := hW1306
       have e1311 : vals 12 = (.tuple #[.agg ((zY d (((l216.getD k default).typ), ((l216.getD k default).agg)) Z).cells v1109).toArray, .bool ((zi d Z (((l216.getD k default).typ), ((l216.getD k default).agg))).isSome)] : Value) := hA1305 12 (by decide) v1109 he1113
       refine obl rfl ?_
       refine zA (vs := [.agg ((zY d (((l216.getD k default).typ), ((l216.getD k default).agg)) Z).cells v1109).toArray, .bool ((zi d Z (((l216.getD k default).typ), ((l216.getD k default).agg))).isSome)]) (i := 0) (v := .agg ((zY d (((l216.getD k default).typ), ((l216.getD k default).agg)) Z).cells v1109).toArray) e1311 rfl (fun vals' hv hv' => ⟨rfl, ?_⟩)
       intro v1109q hq0
       rw [hv' 11 (by decide)] at hq0; cases he1113.symm.trans hq0
       exact hv
     ·intro k1312 vals w1313 hk1316 hW1315 hA1314
      have hk13162 : k1312 ∈ [1, 3, 7] := hk1316
      simp only [List.mem_cons, List.not_mem_nil, or_false] at hk13162
      rcases hk13162 with rfl | rfl | rfl
      ·skip
       obtain ⟨v1109, he1113, hS1317⟩ := hW1315
       have e1318 : vals 12 = (.tuple #[.agg ((zY d (((l216.getD k default).typ), ((l216.getD k default).agg)) Z).cells v1109).toArray, .bool ((zi d Z (((l216.getD k default).typ), ((l216.getD k default).agg))).isSome)] : Value) := hA1314 12 (by decide) v1109 he1113
       refine obl rfl ?_
       exact zA (vs := [.agg ((zY d (((l216.getD k default).typ), ((l216.getD k default).agg)) Z).cells v1109).toArray, .bool ((zi d Z (((l216.getD k default).typ), ((l216.getD k default).agg))).isSome)]) (i := 1) (v := .bool ((zi d Z (((l216.getD k default).typ), ((l216.getD k default).agg))).isSome)) e1318 rfl (fun vals' hv _ => ⟨rfl, hv⟩)
      ·skip
       obtain ⟨v1109, b1141, he1113, he1144, hS1319⟩ := hW1315
       have e1320 : vals 12 = (.tuple #[.agg ((zY d (((l216.getD k default).typ), ((l216.getD k default).agg)) Z).cells v1109).toArray, .bool ((zi d Z (((l216.getD k default).typ), ((l216.getD k default).agg))).isSome)] : Value) := hA1314 12 (by decide) v1109 he1113
       refine obl rfl ?_
       exact zA (vs := [.agg ((zY d (((l216.getD k default).typ), ((l216.getD k default).agg)) Z).cells v1109).toArray, .bool ((zi d Z (((l216.getD k default).typ), ((l216.getD k default).agg))).isSome)]) (i := 1) (v := .bool ((zi d Z (((l216.getD k default).typ), ((l216.getD k default).agg))).isSome)) e1320 rfl (fun vals' hv _ => ⟨rfl, hv⟩)
      ·skip
       obtain ⟨v1109, b1141, he1113, he1144, hS1321⟩ := hW1315
       have e1322 : vals 12 = (.tuple #[.agg ((zY d (((l216.getD k default).typ), ((l216.getD k default).agg)) Z).cells v1109).toArray, .bool ((zi d Z (((l216.getD k default).typ), ((l216.getD k default).agg))).isSome)] : Value) := hA1314 12 (by decide) v1109 he1113
       refine obl rfl ?_
       exact zA (vs := [.agg ((zY d (((l216.getD k default).typ), ((l216.getD k default).agg)) Z).cells v1109).toArray, .bool ((zi d Z (((l216.getD k default).typ), ((l216.getD k default).agg))).isSome)]) (i := 1) (v := .bool ((zi d Z (((l216.getD k default).typ), ((l216.getD k default).agg))).isSome)) e1322 rfl (fun vals' hv _ => ⟨rfl, hv⟩)
     ·intro k1323 vals w1324 hk1327 hW1326 hA1325
      have hk13272 : k1323 ∈ [0, 1] := hk1327
      simp only [List.mem_cons, List.not_mem_nil, or_false] at hk13272
      rcases hk13272 with rfl | rfl
      ·skip
       have hS1328 : Sep _ _ _ _ := hW1326
       refine obl rfl ?_
       refine (zH Tryd.zeroValue68 ?_)
       intro w1331 b1141 hn1329
       have hS1332 := hS1328.new hn1329
       intro vals' hv hv'
       refine ⟨?_, trivial⟩
       show ∃ (b1141 : Nat), (vals' 15 = (.pointer (some ⟨b1141, 0, none⟩) : Value)) ∧ Sep G612 w607 ((Blk b1141 #[.int .i64 (0), (.slice none 0 0)] 68) :: (Blk b799 ((zY d (((l216.getD k default).typ), ((l216.getD k default).agg)) X).cells v767).toArray 68) :: (ViewO b576 d X X) :: (RwC v767 (stL d (((l216.getD k default).typ), ((l216.getD k default).agg)) X)) :: (RowE (α := Ent) (shr G612 w607) 62 v626 (swp Z q31)) :: (ViewO b587 d Z Z) :: (RowE (α := Ev) (shr G22 w19) 59 v548 (swp l216 q31)) :: (Blk b2 (d.cells dd0 dd1).toArray 25) :: Rs) w1331
       exact ⟨b1141, hv, hS1332⟩
      ·skip
       obtain ⟨v1109, he1113, hS1333⟩ := hW1326
       refine obl rfl ?_
       refine (zH Tryd.zeroValue68 ?_)
       intro w1336 b1141 hn1334
       have hS1337 := hS1333.new hn1334
       intro vals' hv hv'
       refine ⟨?_, trivial⟩
       show ∃ (v1109 : Value) (b1141 : Nat), (vals' 11 = (.tuple #[.agg ((zY d (((l216.getD k default).typ), ((l216.getD k default).agg)) Z).cells v1109).toArray, .bool ((zi d Z (((l216.getD k default).typ), ((l216.getD k default).agg))).isSome)] : Value)) ∧ (vals' 15 = (.pointer (some ⟨b1141, 0, none⟩) : Value)) ∧ Sep G612 w607 ((Blk b1141 #[.int .i64 (0), (.slice none 0 0)] 68) :: (ViewO b587 d Z Z) :: (RwC v1109 (stL d (((l216.getD k default).typ), ((l216.getD k default).agg)) Z)) :: (Blk b799 ((zY d (((l216.getD k default).typ), ((l216.getD k default).agg)) X).cells v767).toArray 68) :: (ViewO b576 d X X) :: (RwC v767 (stL d (((l216.getD k default).typ), ((l216.getD k default).agg)) X)) :: (RowE (α := Ent) (shr G612 w607) 62 v626 (swp Z q31)) :: (RowE (α := Ev) (shr G22 w19) 59 v548 (swp l216 q31)) :: (Blk b2 (d.cells dd0 dd1).toArray 25) :: Rs) w1336
       exact ⟨v1109, b1141, (by rw [hv' 11 (by decide)]; exact he1113), hv, hS1337⟩
     ·intro k1338 vals w1339 hk1342 hW1341 hA1340
      have hk13422 : k1338 ∈ [3] := hk1342
      simp only [List.mem_cons, List.not_mem_nil, or_false] at hk13422
      subst hk13422
      obtain ⟨v1109, b1141, he1113, he1144, hS1343⟩ := hW1341
      refine obl rfl ?_
      have e1344 : vals 13 = (.agg ((zY d (((l216.getD k default).typ), ((l216.getD k default).agg)) Z).cells v1109).toArray : Value) := hA1340 13 (by decide) v1109 he1113
      have hr1347 := hS1343.row (i := 2) rfl
      have hr1347s : _ * 32 ≤ _ := hr1347.2
      refine (zF (v := .agg ((zY d (((l216.getD k default).typ), ((l216.getD k default).agg)) Z).cells v1109).toArray) (c' := ((zY d (((l216.getD k default).typ), ((l216.getD k default).agg)) Z).cells v1109).toArray) Tryd.sizeOf68 he1144 e1344 (hS1343.blk (i := 0) rfl) (yp ⟨rfl, hr1347.1.one, trivial⟩) (Nat.le_of_ble_eq_true rfl) rfl ?_)
      intro w1345 hp1346
      have hS1348 := hS1343.pt0 hp1346
      intro vals' hv hv'
      refine ⟨?_, trivial⟩
      show ∃ (v1109 : Value) (b1141 : Nat), (vals' 11 = (.tuple #[.agg ((zY d (((l216.getD k default).typ), ((l216.getD k default).agg)) Z).cells v1109).toArray, .bool ((zi d Z (((l216.getD k default).typ), ((l216.getD k default).agg))).isSome)] : Value)) ∧ (vals' 15 = (.pointer (some ⟨b1141, 0, none⟩) : Value)) ∧ Sep G612 w607 ((Blk b1141 ((zY d (((l216.getD k default).typ), ((l216.getD k default).agg)) Z).cells v1109).toArray 68) :: (ViewO b587 d Z Z) :: (RwC v1109 (stL d (((l216.getD k default).typ), ((l216.getD k default).agg)) Z)) :: (Blk b799 ((zY d (((l216.getD k default).typ), ((l216.getD k default).agg)) X).cells v767).toArray 68) :: (ViewO b576 d X X) :: (RwC v767 (stL d (((l216.getD k default).typ), ((l216.getD k default).agg)) X)) :: (RowE (α := Ent) (shr G612 w607) 62 v626 (swp Z q31)) :: (RowE (α := Ev) (shr G22 w19) 59 v548 (swp l216 q31)) :: (Blk b2 (d.cells dd0 dd1).toArray 25) :: Rs) w1345
      exact ⟨v1109, b1141, (by rw [hv' 11 (by decide)]; exact he1113), (by rw [hv' 15 (by decide)]; exact he1144), hS1348⟩
     ·intro k1349 vals w1350 hk1353 hW1352 hA1351
      have e1354 := hA1351 14 (by decide)
      refine obl rfl ?_
      exact zd (v := .bool ((zi d Z (((l216.getD k default).typ), ((l216.getD k default).agg))).isSome)) e1354 (fun vals' hv _ => ⟨rfl, hv⟩)
     intro vals w1355 hW1356 hA1357
     obtain ⟨v1109, b1141, he1113, he1144, hS1358⟩ := hW1356
     have e1359 := hA1357 17 (by decide)
     refine yi (kv := [(2, v15), (4, .pointer (some ⟨b2, 0, none⟩)), (10, .pointer (some ⟨b576, 0, none⟩)), (11, .pointer (some ⟨b587, 0, none⟩)), (15, .int .i64 ((k : Nat) : Int)), (135, .int .i64 ((k : Nat) : Int)), (136, v15), (137, .int .i64 ((l216.length : Nat) : Int)), (138, .bool true), (16, .pointer (some ⟨b799, 0, none⟩)), (17, .bool ((zi d X (((l216.getD k default).typ), ((l216.getD k default).agg))).isSome)), (18, .pointer (some ⟨b1141, 0, none⟩)), (19, .bool ((zi d Z (((l216.getD k default).typ), ((l216.getD k default).agg))).isSome))]) ⟨rfl, rfl, rfl, rfl, rfl, rfl, rfl, rfl, rfl, rfl, rfl, (by exact he1144), (by exact e1359), trivial⟩ (fun ρw1355 => ?_)
     refine zg ?_
     refine ze ?_
     refine zG (by kernel_rfl) ?_
     refine st (zb (v := .bool ((zi d X (((l216.getD k default).typ), ((l216.getD k default).agg))).isSome)) rfl ?_)
     refine st (zb (v := .bool ((zi d Z (((l216.getD k default).typ), ((l216.getD k default).agg))).isSome)) rfl ?_)
     refine st (WQ (a := (zi d X (((l216.getD k default).typ), ((l216.getD k default).agg))).isSome) (b := (zi d Z (((l216.getD k default).typ), ((l216.getD k default).agg))).isSome) Tryd.underlying4 rfl rfl ?_)
     have hkn1360 : (!(((zi d X (((l216.getD k default).typ), ((l216.getD k default).agg))).isSome) == ((zi d Z (((l216.getD k default).typ), ((l216.getD k default).agg))).isSome))) = false := (by rw [hX, hZ, (hlaw.2 _).2]; simp)
     rw [hkn1360]
     refine st (zb (v := .bool false) rfl ?_)
     refine sty rfl rfl (zn (k := 2) Tryd.isAgg68 Tryd.sizeOf68 rfl rfl (CellsAt.all (hS1358.blk (i := 3) rfl)) ?_)
     refine sty rfl rfl (zn (k := 2) Tryd.isAgg68 Tryd.sizeOf68 rfl rfl (CellsAt.all (hS1358.blk (i := 0) rfl)) ?_)
     have hS1361 := hS1358.mv5
     obtain ⟨G1362, hA1364, hB1365, hS1366, hk1367⟩ := hS1361.lend
     have hrd1368 := RowE.rd hA1364
     have hrd1368s : _ * 32 ≤ _ := hrd1368.small
     have hS1369 := hS1366.mv2
     obtain ⟨G1370, hA1372, hB1373, hS1374, hk1375⟩ := hS1369.lend
     have hrd1376 := RowE.rd hA1372
     have hrd1376s : _ * 32 ≤ _ := hrd1376.small
     refine sty rfl rfl (zt (f := 34) (vals := [.agg ((zY d (((l216.getD k default).typ), ((l216.getD k default).agg)) X).cells v767).toArray, .agg ((zY d (((l216.getD k default).typ), ((l216.getD k default).agg)) Z).cells v1109).toArray]) (cap := []) rfl rfl Tryd.call34 (XT (x := (zY d (((l216.getD k default).typ), ((l216.getD k default).agg)) X)) (y := (zY d (((l216.getD k default).typ), ((l216.getD k default).agg)) Z)) (RdS.base hrd1368 hB1373) (VV (by first | omega | (rw [xn]; omega) | (rw [xn]; exact Nat.le_trans (List.length_filter_le _ _) (by rw [List.length_take]; omega)))) hrd1376 (VV (by first | omega | (rw [xn]; omega) | (rw [xn]; exact Nat.le_trans (List.length_filter_le _ _) (by rw [List.length_take]; omega)))) hS1374) ?_)
     rintro _ w1377 ⟨rfl, hS1378⟩
     have hS1379 := hk1375 _ _ hS1378
     have hS1380 := hk1367 _ _ hS1379
     have hkn1381 : (decide ((zY d (((l216.getD k default).typ), ((l216.getD k default).agg)) X) = (zY d (((l216.getD k default).typ), ((l216.getD k default).agg)) Z))) = true := (by rw [hX, hZ, (hlaw.2 _).1]; simp)
     rw [hkn1381]
     refine sty rfl rfl (yB (a := true) rfl ?_)
     refine st (zW (v := .bool false) rfl rfl ?_)
     refine zg ?_
     refine zo rfl ?_
     refine zx ?_
     refine za (by kernel_rfl) (fun _ => ?_)
     refine st (zb (v := .int .i64 ((k : Nat) : Int)) rfl ?_)
     have hr1382 : InR ((k + 1 : Nat) : Int) := by first | omega | (simp only [zq]; omega)
     refine st (yg (r := ((k + 1 : Nat) : Int)) (k := .i64) (a := ((k : Nat) : Int)) (b := 1) rfl rfl (by rw [show (((k : Nat) : Int) + 1 : Int) = ((k + 1 : Nat) : Int) by first | omega | (simp only [zq]; omega)]; exact zO hr1382) ?_)
     refine st (zd (v := .int .i64 ((k + 1 : Nat) : Int)) rfl ?_)
     refine zg ?_
     have hS1383 : Sep G612 w607 ((RowE (α := Ent) (shr G612 w607) 62 v626 (swp Z q31)) :: (ViewO b587 d Z Z) :: (ViewO b576 d X X) :: (RowE (α := Ev) (shr G22 w19) 59 v548 (swp l216 q31)) :: (Blk b2 (d.cells dd0 dd1).toArray 25) :: Rs) w1377 := hS1380.sel 9 [6, 3, 5, 7, 8] (Nat.le_add_left _ _) rfl rfl
     exact ⟨_, by omega, k + 1, _, rfl, zu ⟨rfl, rfl, rfl, rfl, rfl, trivial⟩, by omega, hS1383⟩
   ·skip
    try simp only [zm] at hc542
    refine zp rfl ?_
    refine ze ?_
    refine za (by kernel_rfl) (fun _ => ?_)
    refine st (zt (f := 21) (vals := []) (cap := []) rfl rfl Tryd.call21 (Zh  (RdS.base hKN hB25) hS540) ?_)
    rintro _ w1384 ⟨rfl, hS1385⟩
    refine st (zd (v := .bool true) rfl ?_)
    refine zg ?_
    refine zv ?_
    refine zX Tryd.results9 (show _ = (.bool true : Value) from rfl) ?_
    have hS1386 := hk27 _ _ hS1385
    have hS1387 : Sep G W Rs w1384 := hS1386.sel 2 [] (Nat.le_add_left _ _) rfl rfl
    refine ⟨rfl, hS1387⟩
  ·skip
   have hc29 := of_decide_eq_true hc29
   refine zp rfl ?_
   refine ze ?_
   refine za (by kernel_rfl) (fun _ => ?_)
   refine st (zt (f := 21) (vals := []) (cap := []) rfl rfl Tryd.call21 (Zh  (RdS.base hKN hB25) hS26) ?_)
   rintro _ w1388 ⟨rfl, hS1389⟩
   refine st (zd (v := .bool true) rfl ?_)
   refine zg ?_
   refine zv ?_
   refine zX Tryd.results9 (show _ = (.bool true : Value) from rfl) ?_
   have hS1390 := hk27 _ _ hS1389
   have hS1391 : Sep G W Rs w1388 := hS1390.sel 2 [] (Nat.le_add_left _ _) rfl rfl
   refine ⟨rfl, hS1391⟩
 ·skip
  try simp only [zm] at hc9
  refine zp rfl ?_
  refine ze ?_
  refine za (by kernel_rfl) (fun _ => ?_)
  refine st (zt (f := 21) (vals := []) (cap := []) rfl rfl Tryd.call21 (Zh  hKN hS8) ?_)
  rintro _ w1392 ⟨rfl, hS1393⟩
  refine st (zd (v := .bool true) rfl ?_)
  refine zg ?_
  refine zv ?_
  refine zX Tryd.results9 (show _ = (.bool true : Value) from rfl) ?_
  have hS1394 : Sep G W Rs w1392 := hS1393.sel 1 [] (Nat.le_add_left _ _) rfl rfl
  refine ⟨rfl, hS1394⟩

end Go.Proofs.YtlblilbmpdejgaaDoor
/- Steps of the proofs of this seat: part F15. -/
set_option maxRecDepth 8000
set_option maxHeartbeats 4000000
namespace Go.Proofs.YtlblilbmpdejgaaDoor
open Go.Proofs Go.RowKit

theorem XG {w : World} {d : Dcl} {dd0 dd1 : Value} (h0 : RdS w (yX w) dd0 d.types) (h1 : RdS w (yX w) dd1 d.projs) (od : d.Ok) {n : Int} (hn : InR n) {vl : Value} {l : List Ev} (hl : RdS w (yX w) vl l) {no : Int} (hno : InR no) (hK : RdS w (yX w) (.slice (some ⟨0, 0, none⟩) 6 6) kindsL) : Ret Tryd.prog 9 [.agg (d.cells dd0 dd1).toArray, .int .i64 n, vl, .int .i64 no] w (fun r w' => r = .bool true ∧ Ext w w') :=
  Ret.mono (XZ h0 h1 od hn hl hno hK (Sep.start w)) (fun r w' h => ⟨h.1, h.2.fin⟩)
end Go.Proofs.YtlblilbmpdejgaaDoor
