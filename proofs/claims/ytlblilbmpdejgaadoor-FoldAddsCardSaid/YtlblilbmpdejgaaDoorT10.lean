import Derived.Test.YtlblilbmpdejgaaDoorT9
import Derived.Test.YtlblilbmpdejgaaDoorT8
set_option linter.unusedSimpArgs false
set_option linter.unusedVariables false
set_option linter.unusedSectionVars false
set_option linter.deprecated false
/- Steps of the proofs of this seat: part F23. -/
set_option maxRecDepth 8000
set_option maxHeartbeats 4000000
namespace Go.Proofs.YtlblilbmpdejgaaDoor
open Go.Proofs Go.RowKit

theorem yQ (d : Dcl) (ty f op arg : Int) : yJ d ty f op arg = if yr d ty f = false then 8 else if op = 1 then (if ¬ (zI d ty f).kind = 1 then 2 else if arg = 0 then 1 else 0) else if op = 2 then (if ¬ (zI d ty f).kind = 2 then 2 else 0)
    else if op = 3 ∨ op = 4 then (if ¬ (zI d ty f).kind = 3 then 2 else 0) else if op = 5 then (if ¬ (zI d ty f).kind = 4 then 2 else if arg < 0 ∨ ((zI d ty f).moves.length : Int) ≤ arg then 1 else 0) else 2 := by
  unfold yJ
  cases hB : yr d ty f
  · rfl
  · generalize zI d ty f = F
    by_cases h1 : op = 1
    · subst h1
      simp only [show kindsL.getD (1 : Int).toNat 0 = 1 from rfl]
      by_cases h : F.kind = 1 <;> by_cases h2 : arg = 0 <;> simp [h, h2, eq_comm]
    by_cases h2 : op = 2
    · subst h2
      simp only [show kindsL.getD (2 : Int).toNat 0 = 2 from rfl]
      by_cases h : F.kind = 2 <;> simp [h, eq_comm]
    by_cases h3 : op = 3
    · subst h3
      simp only [show kindsL.getD (3 : Int).toNat 0 = 3 from rfl]
      by_cases h : F.kind = 3 <;> simp [h, eq_comm]
    by_cases h4 : op = 4
    · subst h4
      simp only [show kindsL.getD (4 : Int).toNat 0 = 3 from rfl]
      by_cases h : F.kind = 3 <;> simp [h, eq_comm]
    by_cases h5 : op = 5
    · subst h5
      simp only [show kindsL.getD (5 : Int).toNat 0 = 4 from rfl]
      by_cases h : F.kind = 4
      · by_cases h6 : arg < 0 ∨ (F.moves.length : Int) ≤ arg
        · have : (decide (0 ≤ arg) && decide (arg ≤ (F.moves.length : Int) - 1)) = false := by
            rw [Bool.and_eq_false_iff]
            rcases h6 with h6 | h6
            · exact .inl (decide_eq_false (by omega))
            · exact .inr (decide_eq_false (by omega))
          rw [this, if_pos h6]; simp [h]
        · have : (decide (0 ≤ arg) && decide (arg ≤ (F.moves.length : Int) - 1)) = true := by
            rw [decide_eq_true (by omega), decide_eq_true (by omega)]; rfl
          rw [this, if_neg h6]; simp [h]
      · simp [h, eq_comm]
    · have : (decide (1 ≤ op) && decide (op ≤ 5)) = false := by
        rw [Bool.and_eq_false_iff]
        rcases Int.lt_or_le op 1 with h6 | h6
        · exact .inl (decide_eq_false (by omega))
        · exact .inr (decide_eq_false (by omega))
      simp [this, h1, h2, h3, h4, h5]
theorem WS {v : List Int} {o : Int} (h : ¬ ((0 ≤ o ∧ o < v.length) ∧ 0 < v.getD o.toNat 0)) : xv v o = 0 := by
  unfold xv; split
  · rfl
  · omega
theorem Ue {v : List Int} {o : Int} (h : (0 ≤ o ∧ o < v.length) ∧ 0 < v.getD o.toNat 0) : xv v o = v.getD o.toNat 0 := by
  unfold xv; rw [if_neg (by omega)]; omega
theorem ZD {f : Fld} {x e : Ev} : yG f x e = if ((!xi x e) || (!Zz f.kind x.op x.arg e.op e.arg)) = true then false else if decide (f.policy = 3) = true then decide (e.arg < x.arg) else decide (f.policy = 2) := by
  unfold yG
  cases xi x e <;> cases Zz f.kind x.op x.arg e.op e.arg <;> simp
  by_cases h : f.policy = 3
  · simp [h]
  · simp [h]
theorem Yh {a b : Ev} : xi a b = if (decide (a.origin = b.origin) && decide (a.seq = b.seq)) = true then false else ((!xX a b) && (!xX b a)) := by
  unfold xi
  by_cases h : a.origin = b.origin <;> by_cases h2 : a.seq = b.seq <;> simp [h, h2]
theorem YL {k oA aA oB aB : Int} : Zz k oA aA oB aB = if decide (k = 2) = true then ((decide (oA = 2) && decide (oB = 2)) && !decide (aA = aB)) else if decide (k = 4) = true then ((decide (oA = 5) && decide (oB = 5)) && !decide (aA = aB))
    else if (decide (k = 3) && decide (aA = aB)) = true then ((decide (oA = 3) && decide (oB = 4)) || (decide (oA = 4) && decide (oB = 3))) else false := by
  unfold Zz
  by_cases h2 : k = 2
  · subst h2
    by_cases ha : oA = 2 <;> by_cases hb : oB = 2 <;> simp [ha, hb]
  by_cases h4 : k = 4
  · subst h4
    by_cases ha : oA = 5 <;> by_cases hb : oB = 5 <;> simp [ha, hb]
  by_cases h3 : k = 3
  · subst h3
    by_cases ha : aA = aB
    · subst ha; simp
    · have ha' : ¬ aB = aA := fun e => ha e.symm
      simp [ha, ha']
  · simp [h2, h3, h4]
theorem QF {G : Nat → Prop} {W w : World} {Rs : List HP} {vv : Value} {v : List Int} (hv : RdS W G vv v) {o : Int} (ho : InR o) (hS0 : Sep G W Rs w) : Ret Tryd.prog 108 [vv, .int .i64 (o)] w (fun r w' => r = (.int .i64 (xv v o) : Value) ∧ (InR (xv v o)) ∧ Sep G W Rs w') := by
 have hvs : _ * 8 ≤ _ := hv.small
 refine zr (args := [vv, Iv o]) Tryd.func108 rfl rfl ?_
 refine zd (za kr (fun _ => (st (ze (v := Iv 0) rfl (zf (zd (zd (zF kr (st (zb (v := Iv o) rfl (st (yY (k := .i64) (a := o) (b := 0) rfl rfl (st (zb (v := .bool (decide (0 ≤ o))) rfl (stc (V := Iv o) rfl rfl (fun J => ?_) ?_)))))))))))))))
 have x := J
 have x := tD x
 exact zb (v := Iv o) rfl ⟨rfl, rfl⟩
 refine stc (V := vv) rfl rfl (fun K => ?_) ?_
 have y := K
 have y := tD y
 exact zb (v := vv) rfl ⟨rfl, rfl⟩
 refine stc (V := Iw v.length) rfl rfl (fun z => ?_) ?_
 have A := z
 have A := tD A
 exact zJ (n := v.length) Tryd.underlying40 (show _ = (vv : Value) from (if_pos z)) hv.sl ⟨rfl, rfl⟩
 refine stc (V := .bool (decide (o < ((v.length : Nat) : Int)))) rfl rfl (fun h => ?_) ?_
 have B := h
 have B := tD B
 exact zL (k := .i64) (a := o) (b := ((v.length : Nat) : Int)) (show _ = (Iv o : Value) from (if_pos h)) (show _ = (Iw v.length : Value) from (if_pos h)) ⟨rfl, rfl⟩
 refine st (zx (b := decide (0 ≤ o)) (b' := decide (o < ((v.length : Nat) : Int))) rfl (fun hbp => (show _ = (.bool (decide (o < ((v.length : Nat) : Int))) : Value) from (if_pos hbp))) (st (zb (v := .bool ((decide (0 ≤ o)) && (decide (o < ((v.length : Nat) : Int))))) rfl (stc (V := vv) rfl rfl (fun L => ?_) ?_))))
 have C := L
 try simp only [zj] at C
 exact zb (v := vv) rfl ⟨rfl, rfl⟩
 refine stc (V := Iv o) rfl rfl (fun D => ?_) ?_
 have E := D
 try simp only [zj] at E
 exact zb (v := Iv o) rfl ⟨rfl, rfl⟩
 refine stc (V := Ix (sb vv) (so vv + o.toNat * 1)) rfl rfl (fun c => ?_) ?_
 have F := c
 try simp only [zj] at F
 have hi15 : o.toNat < v.length := bo
 exact zz (k := 1) (i := o) Tryd.underlying40 Tryd.sizeOf3 (show _ = (vv : Value) from (if_pos c)) hv.sl (show _ = (Iv o : Value) from (if_pos c)) ⟨by omega, by omega⟩ ⟨rfl, rfl⟩
 refine stc (V := Iv ((v.getD o.toNat 0))) rfl rfl (fun l => ?_) ?_
 have H := l
 try simp only [zj] at H
 have d : o.toNat < v.length := bo
 obtain ⟨f, q⟩ := hv.int d
 rw [← zm 0 d] at f q
 have s := hS0.cells f (hv.foot (ne_of_lt d))
 exact zg (v := Iv ((v.getD o.toNat 0))) Tryd.isAgg3 (show _ = (Ix (sb vv) (so vv + o.toNat * 1) : Value) from (if_pos l)) (s.get (j := 0) rfl) ⟨rfl, rfl⟩
 refine stc (V := .bool (decide (0 < (v.getD o.toNat 0)))) rfl rfl (fun m => ?_) ?_
 have I := m
 try simp only [zj] at I
 exact yT (k := .i64) (a := (v.getD o.toNat 0)) (b := 0) (show _ = (Iv ((v.getD o.toNat 0)) : Value) from (if_pos m)) rfl ⟨rfl, rfl⟩
 refine st (zx (b := (decide (0 ≤ o)) && (decide (o < ((v.length : Nat) : Int)))) (b' := decide (0 < (v.getD o.toNat 0))) rfl (fun hbp => (show _ = (.bool (decide (0 < (v.getD o.toNat 0))) : Value) from (if_pos hbp))) (zf ?_))
 cases p : ((decide (0 ≤ o)) && (decide (o < ((v.length : Nat) : Int)))) && (decide (0 < (v.getD o.toNat 0)))
 try simp only [zj] at p
 refine zn rfl (zv (zd (za kr (fun _ => (st (ze (v := Iv 0) rfl (zf (zt (zO Tryd.results108 (show _ = (Iv 0 : Value) from rfl) ?_)))))))))
 refine ⟨?_, ?_, hS0⟩
 congr 1; exact (WS om).symm
 rw [WS (by omega)]; decide
 try simp only [zj] at p
 refine zo rfl (zd (za kr (fun _ => (st (zb (v := vv) rfl (st (zb (v := Iv o) rfl ?_)))))))
 have hi24 : o.toNat < v.length := bo
 refine st (zz (k := 1) (i := o) Tryd.underlying40 Tryd.sizeOf3 rfl hv.sl rfl ⟨by omega, by omega⟩ ?_)
 have e : o.toNat < v.length := bo
 obtain ⟨g, t⟩ := hv.int e
 rw [← zm 0 e] at g t
 have u := hS0.cells g (hv.foot (ne_of_lt e))
 refine st (zg (v := Iv ((v.getD o.toNat 0))) Tryd.isAgg3 rfl (u.get (j := 0) rfl) (st (ze (v := Iv ((v.getD o.toNat 0))) rfl (zf (zt (zO Tryd.results108 (show _ = (Iv ((v.getD o.toNat 0)) : Value) from rfl) ?_))))))
 refine ⟨?_, ?_, hS0⟩
 congr 1; exact (Ue om).symm
 rw [Ue (by omega)]; assumption

theorem Yw {G : Nat → Prop} {W w : World} {Rs : List HP} {a : Ev} {da0 : Value} (hda0 : RdS W G da0 a.deps) (oa : a.Ok) {b : Ev} {db0 : Value} (hdb0 : RdS W G db0 b.deps) (ob : b.Ok) (hS0 : Sep G W Rs w) : Ret Tryd.prog 105 [.agg (a.cells da0).toArray, .agg (b.cells db0).toArray] w (fun r w' => r = (.bool ((xX a b)) : Value) ∧ Sep G W Rs w') := by
 have hda0s : _ * 8 ≤ _ := hda0.small
 have hdb0s : _ * 8 ≤ _ := hdb0.small
 refine zr (args := [.agg (a.cells da0).toArray, .agg (b.cells db0).toArray]) Tryd.func105 rfl rfl ?_
 refine zd (za kr (fun _ => (st (zT (v := .agg (a.cells da0).toArray) rfl ?_))))
 intro w3 b2 N
 have O := hS0.new N
 refine st (zT (v := .agg (b.cells db0).toArray) rfl ?_)
 intro w7 F P
 have Q := O.new P
 refine st (ze (v := .bool false) rfl (zf (zd (WD4 ((fun TT E => WF [fun vals H => Sep G W (E :: TT) H, fun vals H => (vals 5 = (Iv (xv b.deps a.origin) : Value)) ∧ (InR (xv b.deps a.origin)) ∧ Sep G W (E :: TT) H]) ((Blk b2 (a.cells da0).toArray 59) :: Rs) (Blk F (b.cells db0).toArray 59)) (AF [Vl 0 (Ix F 3), Vl 1 (db0), Vl 2 (Ix b2 0), Vl 3 (Ix b2 0), Vl 4 (Iv (a.origin)), fun _ => True, Vl 6 (Ix b2 0), Vl 7 (Ix b2 1), Vl 8 (Iv (a.seq)), Vl 9 (.bool (decide (a.seq ≤ (xv b.deps a.origin)))), Vl 10 (.bool (decide (a.seq ≤ (xv b.deps a.origin))))]) [[], [0], [], [2], [2, 3], (rg 5), [], [6], [6, 7], (rg 9), (rg 10)] [5] [(0, 0), (0, 0), (0, 0), (0, 0), (0, 0), (0, 0), (0, 1), (0, 1), (0, 1), (1, 1), (1, 1)] Q ⟨?_, ?_, ?_, ?_, ?_, ?_, ?_, ?_, ?_, ?_, ?_, trivial⟩ ?_))))
 exact fun _ _ _ _ _ _ _ => obl rfl (xm rfl dR)
 exact ob1 0 fun _ _ (l : Sep _ _ _ _) m => obl rfl (zg (v := db0) Tryd.isAgg40 (m 0 dc) (zh (l.blk (i := 0) rfl) rfl) dR)
 exact fun _ _ _ _ _ _ _ => obl rfl (yM rfl dR)
 exact fun _ _ _ _ _ _ n => obl rfl (ZO (n 2 dc) dR)
 exact ob1 0 fun _ _ (p : Sep _ _ _ _) q => obl rfl (zg (v := Iv (a.origin)) Tryd.isAgg3 (q 3 dc) (zh (p.blk (i := 1) rfl) rfl) dR)
 refine ob1 0 fun vals _ (I : Sep _ _ _ _) j => (obl rfl ((zu (f := 108) (vals := [db0, Iv (a.origin)]) (cap := []) rfl (yP ⟨(j 1 dc), (j 4 dc), trivial⟩) Tryd.call108 (QF (v := b.deps) (vv := db0) (o := a.origin) hdb0 oa.origin I) ?_)))
 rintro _ w54 ⟨rfl, c, J⟩
 exact fun vals' R hv' => ⟨(And.intro R (And.intro c J)), trivial⟩
 exact fun _ _ _ _ _ _ _ => obl rfl (yM rfl dR)
 exact fun _ _ _ _ _ _ s => obl rfl (Yl (s 6 dc) dR)
 refine fun d _ _ K L g h => ?_
 have hkk : d = 0 ∨ d = 1 := by have h1 : 0 ≤ d := K; have h2 : d ≤ 1 := L; omega
 rcases hkk with rfl | rfl
 have t : Sep _ _ _ _ := g
 exact obl rfl (zg (v := Iv (a.seq)) Tryd.isAgg3 (h 7 dc) (zh (t.blk (i := 1) rfl) rfl) dR)
 obtain ⟨e, c, u⟩ := g
 exact obl rfl (zg (v := Iv (a.seq)) Tryd.isAgg3 (h 7 dc) (zh (u.blk (i := 1) rfl) rfl) dR)
 refine ob1 1 fun _ _ x y => ?_
 obtain ⟨e, c, hS157⟩ := x
 exact obl rfl (yY (k := .i64) (a := xv b.deps a.origin) (b := a.seq) e (y 8 dc) dR)
 exact fun _ _ _ _ _ _ z => obl rfl (ze (v := .bool (decide (a.seq ≤ (xv b.deps a.origin)))) (z 9 dc) dR)
 intro vals w166 A B
 obtain ⟨e, c, C⟩ := A
 have M := B 10 dc
 refine yf (kv := [(0, .agg (a.cells da0).toArray), (1, .agg (b.cells db0).toArray), (2, Ix b2 0), (3, Ix F 0), (4, .bool (decide (a.seq ≤ (xv b.deps a.origin))))]) ⟨rfl, rfl, rfl, rfl, (by exact M), trivial⟩ (fun ρw166 => (zf (zt (zO Tryd.results105 (show _ = (.bool (decide (a.seq ≤ (xv b.deps a.origin))) : Value) from rfl) ?_))))
 have D := C.s2_
 refine ⟨rfl, D⟩

theorem Vr {G : Nat → Prop} {W w : World} {Rs : List HP} {a : Ev} {da0 : Value} (hda0 : RdS W G da0 a.deps) (oa : a.Ok) {b : Ev} {db0 : Value} (hdb0 : RdS W G db0 b.deps) (ob : b.Ok) (hS0 : Sep G W Rs w) : Ret Tryd.prog 97 [.agg (a.cells da0).toArray, .agg (b.cells db0).toArray] w (fun r w' => r = (.bool ((xi a b)) : Value) ∧ Sep G W Rs w') := by
 have hda0s : _ * 8 ≤ _ := hda0.small
 have hdb0s : _ * 8 ≤ _ := hdb0.small
 refine zr (args := [.agg (a.cells da0).toArray, .agg (b.cells db0).toArray]) Tryd.func97 rfl rfl ?_
 refine zd (za kr (fun _ => (st (zT (v := .agg (a.cells da0).toArray) rfl ?_))))
 intro w3 b2 L
 have M := hS0.new L
 refine st (zT (v := .agg (b.cells db0).toArray) rfl ?_)
 intro w7 A N
 have e := M.new N
 refine st (ze (v := .bool false) rfl (zf (zd (zd (zF kr (st (yM rfl (st (ZO rfl (st (zg (v := Iv (a.origin)) Tryd.isAgg3 rfl (zh (e.blk (i := 1) rfl) rfl) (st (yM rfl (st (ZO rfl (st (zg (v := Iv (b.origin)) Tryd.isAgg3 rfl (zh (e.blk (i := 0) rfl) rfl) (st (zP (k := .i64) (a := a.origin) (b := b.origin) rfl rfl (st (zb (v := .bool (decide (a.origin = b.origin))) rfl (stc (V := Ix b2 0) rfl rfl (fun O => ?_) ?_))))))))))))))))))))))
 have m := O
 have m := tD m
 exact yM rfl ⟨rfl, rfl⟩
 refine stc (V := Ix b2 1) rfl rfl (fun n => ?_) ?_
 have o := n
 have o := tD o
 exact Yl (show _ = (Ix b2 0 : Value) from (if_pos n)) ⟨rfl, rfl⟩
 refine stc (V := Iv (a.seq)) rfl rfl (fun p => ?_) ?_
 have q := p
 have q := tD q
 exact zg (v := Iv (a.seq)) Tryd.isAgg3 (show _ = (Ix b2 1 : Value) from (if_pos p)) (zh (e.blk (i := 1) rfl) rfl) ⟨rfl, rfl⟩
 refine stc (V := Ix A 0) rfl rfl (fun B => ?_) ?_
 have s := B
 have s := tD s
 exact yM rfl ⟨rfl, rfl⟩
 refine stc (V := Ix A 1) rfl rfl (fun t => ?_) ?_
 have u := t
 have u := tD u
 exact Yl (show _ = (Ix A 0 : Value) from (if_pos t)) ⟨rfl, rfl⟩
 refine stc (V := Iv (b.seq)) rfl rfl (fun x => ?_) ?_
 have y := x
 have y := tD y
 exact zg (v := Iv (b.seq)) Tryd.isAgg3 (show _ = (Ix A 1 : Value) from (if_pos x)) (zh (e.blk (i := 0) rfl) rfl) ⟨rfl, rfl⟩
 refine stc (V := .bool (decide (a.seq = b.seq))) rfl rfl (fun l => ?_) ?_
 have z := l
 have z := tD z
 exact zP (k := .i64) (a := a.seq) (b := b.seq) (show _ = (Iv (a.seq) : Value) from (if_pos l)) (show _ = (Iv (b.seq) : Value) from (if_pos l)) ⟨rfl, rfl⟩
 refine st (zx (b := decide (a.origin = b.origin)) (b' := decide (a.seq = b.seq)) rfl (fun hbp => (show _ = (.bool (decide (a.seq = b.seq)) : Value) from (if_pos hbp))) (zf ?_))
 cases g : (decide (a.origin = b.origin)) && (decide (a.seq = b.seq))
 have c := g
 try simp only [zj] at g
 refine zn rfl (zv (zd (zF kr (st (zl (k := 10) Tryd.isAgg59 Tryd.sizeOf59 rfl rfl (CellsAt.all (e.blk (i := 1) rfl)) (st (zl (k := 10) Tryd.isAgg59 Tryd.sizeOf59 rfl rfl (CellsAt.all (e.blk (i := 0) rfl)) (st (zu (f := 105) (vals := [.agg (a.cells da0).toArray, .agg (b.cells db0).toArray]) (cap := []) rfl rfl Tryd.call105 (Yw (a := a) (b := b) hda0 oa hdb0 ob e) ?_)))))))))
 rintro _ w24 ⟨rfl, h⟩
 refine st (yt (a := (xX a b)) rfl (st (zb (v := .bool (!(xX a b))) rfl (stc (V := .agg (b.cells db0).toArray) rfl rfl (fun C => ?_) ?_))))
 have D := C
 try simp only [zj] at D
 exact zl (k := 10) Tryd.isAgg59 Tryd.sizeOf59 rfl rfl (CellsAt.all (h.blk (i := 0) rfl)) ⟨rfl, rfl⟩
 refine stc (V := .agg (a.cells da0).toArray) rfl rfl (fun E => ?_) ?_
 have F := E
 try simp only [zj] at F
 exact zl (k := 10) Tryd.isAgg59 Tryd.sizeOf59 rfl rfl (CellsAt.all (h.blk (i := 1) rfl)) ⟨rfl, rfl⟩
 cases j : !(xX a b)
 have d := j
 try simp only [zj] at j
 refine stx rfl rfl (stx rfl rfl (st (yg (v := .bool false) rfl rfl (st (ze (v := .bool false) rfl (zf (zt (zO Tryd.results97 (show _ = (.bool false : Value) from rfl) ?_))))))))
 have H := h.s2_
 refine ⟨?_, H⟩
 rw [Yh]
 ·first | rfl | (simp only [c, d, Bool.not_true, Bool.not_false, Bool.false_and, Bool.true_and, Bool.and_false, Bool.and_true, Bool.false_or, Bool.or_false, Bool.true_or, Bool.or_true, Bool.false_eq_true, ↓reduceIte]; done) | (simp only [c, d, Bool.not_true, Bool.not_false, Bool.false_and, Bool.true_and, Bool.and_false, Bool.and_true, Bool.false_or, Bool.or_false, Bool.true_or, Bool.or_true, Bool.false_eq_true, ↓reduceIte]; rfl)
 have d := j
 try simp only [zj] at j
 refine sty rfl rfl (zu (f := 105) (vals := [.agg (b.cells db0).toArray, .agg (a.cells da0).toArray]) (cap := []) rfl rfl Tryd.call105 (Yw (a := b) (b := a) hdb0 ob hda0 oa h) ?_)
 rintro _ w32 ⟨rfl, I⟩
 refine sty rfl rfl (yt (a := (xX b a)) rfl (st (zX (v := .bool (!(xX b a))) rfl rfl (st (ze (v := .bool (!(xX b a))) rfl (zf (zt (zO Tryd.results97 (show _ = (.bool (!(xX b a)) : Value) from rfl) ?_))))))))
 have J := I.s2_
 refine ⟨?_, J⟩
 rw [Yh]
 ·first | rfl | (simp only [c, d, Bool.not_true, Bool.not_false, Bool.false_and, Bool.true_and, Bool.and_false, Bool.and_true, Bool.false_or, Bool.or_false, Bool.true_or, Bool.or_true, Bool.false_eq_true, ↓reduceIte]; done) | (simp only [c, d, Bool.not_true, Bool.not_false, Bool.false_and, Bool.true_and, Bool.and_false, Bool.and_true, Bool.false_or, Bool.or_false, Bool.true_or, Bool.or_true, Bool.false_eq_true, ↓reduceIte]; rfl)
 have c := g
 try simp only [zj] at g
 refine zo rfl (zd (za kr (fun _ => (st (ze (v := .bool false) rfl (zf (zt (zO Tryd.results97 (show _ = (.bool false : Value) from rfl) ?_))))))))
 have K := e.s2_
 refine ⟨?_, K⟩
 rw [Yh]
 ·first | rfl | (simp only [c, Bool.not_true, Bool.not_false, Bool.false_and, Bool.true_and, Bool.and_false, Bool.and_true, Bool.false_or, Bool.or_false, Bool.true_or, Bool.or_true, Bool.false_eq_true, ↓reduceIte]; done) | (simp only [c, Bool.not_true, Bool.not_false, Bool.false_and, Bool.true_and, Bool.and_false, Bool.and_true, Bool.false_or, Bool.or_false, Bool.true_or, Bool.or_true, Bool.false_eq_true, ↓reduceIte]; rfl)

theorem Wb {G : Nat → Prop} {W w : World} {Rs : List HP} {f : Fld} {df0 : Value} (hdf0 : RdS W G df0 f.moves) (of : f.Ok) {oA : Int} (hoA : InR oA) {aA : Int} (haA : InR aA) {oB : Int} (hoB : InR oB) {aB : Int} (haB : InR aB) (hS0 : Sep G W Rs w) : Ret Tryd.prog 98 [.agg (f.cells df0).toArray, .int .i64 (oA), .int .i64 (aA), .int .i64 (oB), .int .i64 (aB)] w (fun r w' => r = (.bool ((Zz f.kind oA aA oB aB)) : Value) ∧ Sep G W Rs w') := by
 have hdf0s : _ * 32 ≤ _ := hdf0.small
 refine zr (args := [.agg (f.cells df0).toArray, Iv oA, Iv aA, Iv oB, Iv aB]) Tryd.func98 rfl rfl ?_
 refine zd (za kr (fun _ => (st (zT (v := .agg (f.cells df0).toArray) rfl ?_))))
 intro w3 b2 am
 have g := hS0.new am
 refine st (ze (v := .bool false) rfl (zf (zd (zd (za kr (fun _ => (st (xb rfl (st (zg (v := Iv (f.kind)) Tryd.isAgg3 rfl (zh (g.blk (i := 0) rfl) rfl) (st (zP (k := .i64) (a := f.kind) (b := 2) rfl rfl (zf ?_)))))))))))))
 cases h : decide (f.kind = 2)
 have c := h
 have h := fD h
 refine zn rfl (zv (zd (zd (za kr (fun _ => (st (xb rfl (st (zg (v := Iv (f.kind)) Tryd.isAgg3 rfl (zh (g.blk (i := 0) rfl) rfl) (st (zP (k := .i64) (a := f.kind) (b := 4) rfl rfl (zf ?_))))))))))))
 cases j : decide (f.kind = 4)
 have d := j
 have j := fD j
 refine zn rfl (zv (zd (zd (zF kr (st (xb rfl (st (zg (v := Iv (f.kind)) Tryd.isAgg3 rfl (zh (g.blk (i := 0) rfl) rfl) (st (zP (k := .i64) (a := f.kind) (b := 3) rfl rfl (st (zb (v := .bool (decide (f.kind = 3))) rfl (stc (V := Iv aA) rfl rfl (fun an => ?_) ?_)))))))))))))
 have L := an
 have L := tD L
 exact zb (v := Iv aA) rfl ⟨rfl, rfl⟩
 refine stc (V := Iv aB) rfl rfl (fun ao => ?_) ?_
 have s := ao
 have s := tD s
 exact zb (v := Iv aB) rfl ⟨rfl, rfl⟩
 refine stc (V := .bool (decide (aA = aB))) rfl rfl (fun n => ?_) ?_
 have t := n
 have t := tD t
 exact zP (k := .i64) (a := aA) (b := aB) (show _ = (Iv aA : Value) from (if_pos n)) (show _ = (Iv aB : Value) from (if_pos n)) ⟨rfl, rfl⟩
 refine st (zx (b := decide (f.kind = 3)) (b' := decide (aA = aB)) rfl (fun hbp => (show _ = (.bool (decide (aA = aB)) : Value) from (if_pos hbp))) (zf ?_))
 cases l : (decide (f.kind = 3)) && (decide (aA = aB))
 have e := l
 try simp only [zj] at l
 refine zn rfl (zv (zd (za kr (fun _ => (st (ze (v := .bool false) rfl (zf (zt (zO Tryd.results98 (show _ = (.bool false : Value) from rfl) ?_)))))))))
 have M := g.s1_
 refine ⟨?_, M⟩
 rw [YL]
 ·first | rfl | (simp only [c, d, e, Bool.not_true, Bool.not_false, Bool.false_and, Bool.true_and, Bool.and_false, Bool.and_true, Bool.false_or, Bool.or_false, Bool.true_or, Bool.or_true, Bool.false_eq_true, ↓reduceIte]; done) | (simp only [c, d, e, Bool.not_true, Bool.not_false, Bool.false_and, Bool.true_and, Bool.and_false, Bool.and_true, Bool.false_or, Bool.or_false, Bool.true_or, Bool.or_true, Bool.false_eq_true, ↓reduceIte]; rfl)
 have e := l
 try simp only [zj] at l
 refine zo rfl (zd (zF kr (st (zb (v := Iv oA) rfl (st (zP (k := .i64) (a := oA) (b := 3) rfl rfl (st (zb (v := .bool (decide (oA = 3))) rfl (stc (V := Iv oB) rfl rfl (fun N => ?_) ?_)))))))))
 have u := N
 have u := tD u
 exact zb (v := Iv oB) rfl ⟨rfl, rfl⟩
 refine stc (V := .bool (decide (oB = 4))) rfl rfl (fun x => ?_) ?_
 have y := x
 have y := tD y
 exact zP (k := .i64) (a := oB) (b := 4) (show _ = (Iv oB : Value) from (if_pos x)) rfl ⟨rfl, rfl⟩
 refine st (zx (b := decide (oA = 3)) (b' := decide (oB = 4)) rfl (fun hbp => (show _ = (.bool (decide (oB = 4)) : Value) from (if_pos hbp))) (st (zb (v := .bool ((decide (oA = 3)) && (decide (oB = 4)))) rfl (stc (V := Iv oA) rfl rfl (fun O => ?_) ?_))))
 have P := O
 try simp only [zj] at P
 exact zb (v := Iv oA) rfl ⟨rfl, rfl⟩
 refine stc (V := .bool (decide (oA = 4))) rfl rfl (fun z => ?_) ?_
 have Q := z
 try simp only [zj] at Q
 exact zP (k := .i64) (a := oA) (b := 4) (show _ = (Iv oA : Value) from (if_pos z)) rfl ⟨rfl, rfl⟩
 refine stc (V := .bool (decide (oA = 4))) rfl rfl (fun A => ?_) ?_
 have R := A
 try simp only [zj] at R
 exact zb (v := .bool (decide (oA = 4))) (show _ = (.bool (decide (oA = 4)) : Value) from (if_pos A)) ⟨rfl, rfl⟩
 refine yI (V := Iv oB) rfl rfl (fun B => ?_) ?_
 have S := B.1
 try simp only [zj] at S
 have C := B.2
 have C := tD C
 exact zb (v := Iv oB) rfl ⟨rfl, rfl⟩
 refine yI (V := .bool (decide (oB = 3))) rfl rfl (fun m => ?_) ?_
 have T := m.1
 try simp only [zj] at T
 have D := m.2
 have D := tD D
 exact zP (k := .i64) (a := oB) (b := 3) (show _ = (Iv oB : Value) from (if_pos ⟨m.1, m.2⟩)) rfl ⟨rfl, rfl⟩
 refine stc (V := .bool ((decide (oA = 4)) && (decide (oB = 3)))) rfl rfl (fun o => ?_) ?_
 have U := o
 try simp only [zj] at U
 exact zx (b := decide (oA = 4)) (b' := decide (oB = 3)) (show _ = (.bool (decide (oA = 4)) : Value) from (if_pos o)) (fun hbp => (show _ = (.bool (decide (oB = 3)) : Value) from (if_pos ⟨o, hbp⟩))) ⟨rfl, rfl⟩
 refine st (zG (b := (decide (oA = 3)) && (decide (oB = 4))) (b' := (decide (oA = 4)) && (decide (oB = 3))) rfl (fun hbp => (show _ = (.bool ((decide (oA = 4)) && (decide (oB = 3))) : Value) from (if_pos hbp))) (st (ze (v := .bool (((decide (oA = 3)) && (decide (oB = 4))) || ((decide (oA = 4)) && (decide (oB = 3))))) rfl (zf (zt (zO Tryd.results98 (show _ = (.bool (((decide (oA = 3)) && (decide (oB = 4))) || ((decide (oA = 4)) && (decide (oB = 3)))) : Value) from rfl) ?_))))))
 have X := g.s1_
 refine ⟨?_, X⟩
 rw [YL]
 ·first | rfl | (simp only [c, d, e, Bool.not_true, Bool.not_false, Bool.false_and, Bool.true_and, Bool.and_false, Bool.and_true, Bool.false_or, Bool.or_false, Bool.true_or, Bool.or_true, Bool.false_eq_true, ↓reduceIte]; done) | (simp only [c, d, e, Bool.not_true, Bool.not_false, Bool.false_and, Bool.true_and, Bool.and_false, Bool.and_true, Bool.false_or, Bool.or_false, Bool.true_or, Bool.or_true, Bool.false_eq_true, ↓reduceIte]; rfl)
 have d := j
 have j := tD j
 refine zo rfl (zd (zF kr (st (zb (v := Iv oA) rfl (st (zP (k := .i64) (a := oA) (b := 5) rfl rfl (st (zb (v := .bool (decide (oA = 5))) rfl (stc (V := Iv oB) rfl rfl (fun Y => ?_) ?_)))))))))
 have E := Y
 have E := tD E
 exact zb (v := Iv oB) rfl ⟨rfl, rfl⟩
 refine stc (V := .bool (decide (oB = 5))) rfl rfl (fun F => ?_) ?_
 have H := F
 have H := tD H
 exact zP (k := .i64) (a := oB) (b := 5) (show _ = (Iv oB : Value) from (if_pos F)) rfl ⟨rfl, rfl⟩
 refine st (zx (b := decide (oA = 5)) (b' := decide (oB = 5)) rfl (fun hbp => (show _ = (.bool (decide (oB = 5)) : Value) from (if_pos hbp))) (st (zb (v := .bool ((decide (oA = 5)) && (decide (oB = 5)))) rfl (stc (V := Iv aA) rfl rfl (fun Z => ?_) ?_))))
 have aa := Z
 try simp only [zj] at aa
 exact zb (v := Iv aA) rfl ⟨rfl, rfl⟩
 refine stc (V := Iv aB) rfl rfl (fun ab => ?_) ?_
 have ac := ab
 try simp only [zj] at ac
 exact zb (v := Iv aB) rfl ⟨rfl, rfl⟩
 refine stc (V := .bool (!decide (aA = aB))) rfl rfl (fun p => ?_) ?_
 have ad := p
 try simp only [zj] at ad
 exact yq (k := .i64) (a := aA) (b := aB) (show _ = (Iv aA : Value) from (if_pos p)) (show _ = (Iv aB : Value) from (if_pos p)) ⟨rfl, rfl⟩
 refine st (zx (b := (decide (oA = 5)) && (decide (oB = 5))) (b' := !decide (aA = aB)) rfl (fun hbp => (show _ = (.bool (!decide (aA = aB)) : Value) from (if_pos hbp))) (st (ze (v := .bool (((decide (oA = 5)) && (decide (oB = 5))) && (!decide (aA = aB)))) rfl (zf (zt (zO Tryd.results98 (show _ = (.bool (((decide (oA = 5)) && (decide (oB = 5))) && (!decide (aA = aB))) : Value) from rfl) ?_))))))
 have ae := g.s1_
 refine ⟨?_, ae⟩
 rw [YL]
 ·first | rfl | (simp only [c, d, Bool.not_true, Bool.not_false, Bool.false_and, Bool.true_and, Bool.and_false, Bool.and_true, Bool.false_or, Bool.or_false, Bool.true_or, Bool.or_true, Bool.false_eq_true, ↓reduceIte]; done) | (simp only [c, d, Bool.not_true, Bool.not_false, Bool.false_and, Bool.true_and, Bool.and_false, Bool.and_true, Bool.false_or, Bool.or_false, Bool.true_or, Bool.or_true, Bool.false_eq_true, ↓reduceIte]; rfl)
 have c := h
 have h := tD h
 refine zo rfl (zd (zF kr (st (zb (v := Iv oA) rfl (st (zP (k := .i64) (a := oA) (b := 2) rfl rfl (st (zb (v := .bool (decide (oA = 2))) rfl (stc (V := Iv oB) rfl rfl (fun af => ?_) ?_)))))))))
 have I := af
 have I := tD I
 exact zb (v := Iv oB) rfl ⟨rfl, rfl⟩
 refine stc (V := .bool (decide (oB = 2))) rfl rfl (fun J => ?_) ?_
 have K := J
 have K := tD K
 exact zP (k := .i64) (a := oB) (b := 2) (show _ = (Iv oB : Value) from (if_pos J)) rfl ⟨rfl, rfl⟩
 refine st (zx (b := decide (oA = 2)) (b' := decide (oB = 2)) rfl (fun hbp => (show _ = (.bool (decide (oB = 2)) : Value) from (if_pos hbp))) (st (zb (v := .bool ((decide (oA = 2)) && (decide (oB = 2)))) rfl (stc (V := Iv aA) rfl rfl (fun ag => ?_) ?_))))
 have ah := ag
 try simp only [zj] at ah
 exact zb (v := Iv aA) rfl ⟨rfl, rfl⟩
 refine stc (V := Iv aB) rfl rfl (fun ai => ?_) ?_
 have aj := ai
 try simp only [zj] at aj
 exact zb (v := Iv aB) rfl ⟨rfl, rfl⟩
 refine stc (V := .bool (!decide (aA = aB))) rfl rfl (fun q => ?_) ?_
 have ak := q
 try simp only [zj] at ak
 exact yq (k := .i64) (a := aA) (b := aB) (show _ = (Iv aA : Value) from (if_pos q)) (show _ = (Iv aB : Value) from (if_pos q)) ⟨rfl, rfl⟩
 refine st (zx (b := (decide (oA = 2)) && (decide (oB = 2))) (b' := !decide (aA = aB)) rfl (fun hbp => (show _ = (.bool (!decide (aA = aB)) : Value) from (if_pos hbp))) (st (ze (v := .bool (((decide (oA = 2)) && (decide (oB = 2))) && (!decide (aA = aB)))) rfl (zf (zt (zO Tryd.results98 (show _ = (.bool (((decide (oA = 2)) && (decide (oB = 2))) && (!decide (aA = aB))) : Value) from rfl) ?_))))))
 have al := g.s1_
 refine ⟨?_, al⟩
 rw [YL]
 ·first | rfl | (simp only [c, Bool.not_true, Bool.not_false, Bool.false_and, Bool.true_and, Bool.and_false, Bool.and_true, Bool.false_or, Bool.or_false, Bool.true_or, Bool.or_true, Bool.false_eq_true, ↓reduceIte]; done) | (simp only [c, Bool.not_true, Bool.not_false, Bool.false_and, Bool.true_and, Bool.and_false, Bool.and_true, Bool.false_or, Bool.or_false, Bool.true_or, Bool.or_true, Bool.false_eq_true, ↓reduceIte]; rfl)

theorem VA {G : Nat → Prop} {W w : World} {Rs : List HP} {f : Fld} {df0 : Value} (hdf0 : RdS W G df0 f.moves) (of : f.Ok) {x : Ev} {dx0 : Value} (hdx0 : RdS W G dx0 x.deps) (ox : x.Ok) {e : Ev} {de0 : Value} (hde0 : RdS W G de0 e.deps) (oe : e.Ok) (hS0 : Sep G W Rs w) : Ret Tryd.prog 90 [.agg (f.cells df0).toArray, .agg (x.cells dx0).toArray, .agg (e.cells de0).toArray] w (fun r w' => r = (.bool ((yG f x e)) : Value) ∧ Sep G W Rs w') := by
 have hdf0s : _ * 32 ≤ _ := hdf0.small
 have hdx0s : _ * 8 ≤ _ := hdx0.small
 have hde0s : _ * 8 ≤ _ := hde0.small
 refine zr (args := [.agg (f.cells df0).toArray, .agg (x.cells dx0).toArray, .agg (e.cells de0).toArray]) Tryd.func90 rfl rfl ?_
 refine zd (za kr (fun _ => (st (zT (v := .agg (f.cells df0).toArray) rfl ?_))))
 intro w3 b2 S
 have T := hS0.new S
 refine st (zT (v := .agg (x.cells dx0).toArray) rfl ?_)
 intro w7 y U
 have X := T.new U
 refine st (zT (v := .agg (e.cells de0).toArray) rfl ?_)
 intro w11 p Y
 have o := X.new Y
 refine st (ze (v := .bool false) rfl (zf (zd (zd (zF kr (st (zl (k := 10) Tryd.isAgg59 Tryd.sizeOf59 rfl rfl (CellsAt.all (o.blk (i := 1) rfl)) (st (zl (k := 10) Tryd.isAgg59 Tryd.sizeOf59 rfl rfl (CellsAt.all (o.blk (i := 0) rfl)) (st (zu (f := 97) (vals := [.agg (x.cells dx0).toArray, .agg (e.cells de0).toArray]) (cap := []) rfl rfl Tryd.call97 (Vr (a := x) (b := e) hdx0 ox hde0 oe o) ?_)))))))))))
 rintro _ w13 ⟨rfl, g⟩
 refine st (yt (a := (xi x e)) rfl (st (zb (v := .bool (!(xi x e))) rfl (stc (V := .agg (f.cells df0).toArray) rfl rfl (fun z => ?_) ?_))))
 have A := z
 try simp only [zj] at A
 exact zl (k := 4) Tryd.isAgg79 Tryd.sizeOf79 rfl rfl (CellsAt.all (g.blk (i := 2) rfl)) ⟨rfl, rfl⟩
 refine stc (V := Ix y 7) rfl rfl (fun B => ?_) ?_
 have C := B
 try simp only [zj] at C
 exact xo rfl ⟨rfl, rfl⟩
 refine stc (V := Iv (x.op)) rfl rfl (fun q => ?_) ?_
 have D := q
 try simp only [zj] at D
 exact zg (v := Iv (x.op)) Tryd.isAgg3 (show _ = (Ix y 7 : Value) from (if_pos q)) (zh (g.blk (i := 1) rfl) rfl) ⟨rfl, rfl⟩
 refine stc (V := Ix y 8) rfl rfl (fun E => ?_) ?_
 have F := E
 try simp only [zj] at F
 exact xe rfl ⟨rfl, rfl⟩
 refine stc (V := Iv (x.arg)) rfl rfl (fun s => ?_) ?_
 have H := s
 try simp only [zj] at H
 exact zg (v := Iv (x.arg)) Tryd.isAgg3 (show _ = (Ix y 8 : Value) from (if_pos s)) (zh (g.blk (i := 1) rfl) rfl) ⟨rfl, rfl⟩
 refine stc (V := Ix p 7) rfl rfl (fun I => ?_) ?_
 have J := I
 try simp only [zj] at J
 exact xo rfl ⟨rfl, rfl⟩
 refine stc (V := Iv (e.op)) rfl rfl (fun t => ?_) ?_
 have K := t
 try simp only [zj] at K
 exact zg (v := Iv (e.op)) Tryd.isAgg3 (show _ = (Ix p 7 : Value) from (if_pos t)) (zh (g.blk (i := 0) rfl) rfl) ⟨rfl, rfl⟩
 refine stc (V := Ix p 8) rfl rfl (fun L => ?_) ?_
 have M := L
 try simp only [zj] at M
 exact xe rfl ⟨rfl, rfl⟩
 refine stc (V := Iv (e.arg)) rfl rfl (fun u => ?_) ?_
 have N := u
 try simp only [zj] at N
 exact zg (v := Iv (e.arg)) Tryd.isAgg3 (show _ = (Ix p 8 : Value) from (if_pos u)) (zh (g.blk (i := 0) rfl) rfl) ⟨rfl, rfl⟩
 cases m : !(xi x e)
 have c := m
 try simp only [zj] at m
 refine sty rfl rfl (zu (f := 98) (vals := [.agg (f.cells df0).toArray, Iv (x.op), Iv (x.arg), Iv (e.op), Iv (e.arg)]) (cap := []) rfl rfl Tryd.call98 (Wb (f := f) (oA := x.op) (aA := x.arg) (oB := e.op) (aB := e.arg) hdf0 of ox.op ox.arg oe.op oe.arg g) ?_)
 rintro _ w34 ⟨rfl, h⟩
 refine sty rfl rfl (yt (a := (Zz f.kind x.op x.arg e.op e.arg)) rfl (st (yg (v := .bool (!(Zz f.kind x.op x.arg e.op e.arg))) rfl rfl (zf ?_))))
 cases n : !(Zz f.kind x.op x.arg e.op e.arg)
 have d := n
 try simp only [zj] at n
 refine zn rfl (zv (zd (zd (za kr (fun _ => (st (ZP rfl (st (zg (v := Iv (f.policy)) Tryd.isAgg3 rfl (zh (h.blk (i := 2) rfl) rfl) (st (zP (k := .i64) (a := f.policy) (b := 3) rfl rfl (zf ?_))))))))))))
 cases l : decide (f.policy = 3)
 have j := l
 have l := fD l
 refine zn rfl (zv (zd (za kr (fun _ => (st (ZP rfl (st (zg (v := Iv (f.policy)) Tryd.isAgg3 rfl (zh (h.blk (i := 2) rfl) rfl) (st (zP (k := .i64) (a := f.policy) (b := 2) rfl rfl (st (ze (v := .bool (decide (f.policy = 2))) rfl (zf (zt (zO Tryd.results90 (show _ = (.bool (decide (f.policy = 2)) : Value) from rfl) ?_)))))))))))))))
 have O := h.s3_
 refine ⟨?_, O⟩
 rw [ZD]
 ·first | rfl | (simp only [c, d, j, Bool.not_true, Bool.not_false, Bool.false_and, Bool.true_and, Bool.and_false, Bool.and_true, Bool.false_or, Bool.or_false, Bool.true_or, Bool.or_true, Bool.false_eq_true, ↓reduceIte]; done) | (simp only [c, d, j, Bool.not_true, Bool.not_false, Bool.false_and, Bool.true_and, Bool.and_false, Bool.and_true, Bool.false_or, Bool.or_false, Bool.true_or, Bool.or_true, Bool.false_eq_true, ↓reduceIte]; rfl)
 have j := l
 have l := tD l
 refine zo rfl (zd (za kr (fun _ => (st (xe rfl (st (zg (v := Iv (x.arg)) Tryd.isAgg3 rfl (zh (h.blk (i := 1) rfl) rfl) (st (xe rfl (st (zg (v := Iv (e.arg)) Tryd.isAgg3 rfl (zh (h.blk (i := 0) rfl) rfl) (st (yT (k := .i64) (a := x.arg) (b := e.arg) rfl rfl (st (ze (v := .bool (decide (e.arg < x.arg))) rfl (zf (zt (zO Tryd.results90 (show _ = (.bool (decide (e.arg < x.arg)) : Value) from rfl) ?_))))))))))))))))))
 have P := h.s3_
 refine ⟨?_, P⟩
 rw [ZD]
 ·first | rfl | (simp only [c, d, j, Bool.not_true, Bool.not_false, Bool.false_and, Bool.true_and, Bool.and_false, Bool.and_true, Bool.false_or, Bool.or_false, Bool.true_or, Bool.or_true, Bool.false_eq_true, ↓reduceIte]; done) | (simp only [c, d, j, Bool.not_true, Bool.not_false, Bool.false_and, Bool.true_and, Bool.and_false, Bool.and_true, Bool.false_or, Bool.or_false, Bool.true_or, Bool.or_true, Bool.false_eq_true, ↓reduceIte]; rfl)
 have d := n
 try simp only [zj] at n
 refine zo rfl (zd (za kr (fun _ => (st (ze (v := .bool false) rfl (zf (zt (zO Tryd.results90 (show _ = (.bool false : Value) from rfl) ?_))))))))
 have Q := h.s3_
 refine ⟨?_, Q⟩
 rw [ZD]
 ·first | rfl | (simp only [c, d, Bool.not_true, Bool.not_false, Bool.false_and, Bool.true_and, Bool.and_false, Bool.and_true, Bool.false_or, Bool.or_false, Bool.true_or, Bool.or_true, Bool.false_eq_true, ↓reduceIte]; done) | (simp only [c, d, Bool.not_true, Bool.not_false, Bool.false_and, Bool.true_and, Bool.and_false, Bool.and_true, Bool.false_or, Bool.or_false, Bool.true_or, Bool.or_true, Bool.false_eq_true, ↓reduceIte]; rfl)
 have c := m
 try simp only [zj] at m
 refine stx rfl rfl (stx rfl rfl (st (zX (v := .bool true) rfl rfl (zf (zo rfl (zd (za kr (fun _ => (st (ze (v := .bool false) rfl (zf (zt (zO Tryd.results90 (show _ = (.bool false : Value) from rfl) ?_)))))))))))))
 have R := g.s3_
 refine ⟨?_, R⟩
 rw [ZD]
 ·first | rfl | (simp only [c, Bool.not_true, Bool.not_false, Bool.false_and, Bool.true_and, Bool.and_false, Bool.and_true, Bool.false_or, Bool.or_false, Bool.true_or, Bool.or_true, Bool.false_eq_true, ↓reduceIte]; done) | (simp only [c, Bool.not_true, Bool.not_false, Bool.false_and, Bool.true_and, Bool.and_false, Bool.and_true, Bool.false_or, Bool.or_false, Bool.true_or, Bool.or_true, Bool.false_eq_true, ↓reduceIte]; rfl)

theorem Vj {G : Nat → Prop} {W w : World} {Rs : List HP} {d : Dcl} {dd0 : Value} (hdd0 : RdS W G dd0 d.types) {dd1 : Value} (hdd1 : RdS W G dd1 d.projs) (od : d.Ok) {ty : Int} (hty : InR ty) {f : Int} (hf : InR f) (hS0 : Sep G W Rs w) : Ret Tryd.prog 72 [.agg (d.cells dd0 dd1).toArray, .int .i64 (ty), .int .i64 (f)] w (fun r w' => ∃ (v : Value), r = (.tuple #[.agg ((zI d ty f).cells v).toArray, .bool ((yr d ty f))] : Value) ∧ ((zI d ty f).Ok) ∧ Sep G W ((RowE (α := Mv) own 115 v ((zI d ty f).moves)) :: Rs) w') := by
 have hdd0s : _ * 24 ≤ _ := hdd0.small
 have hdd1s : _ * 40 ≤ _ := hdd1.small
 refine zr (args := [.agg (d.cells dd0 dd1).toArray, Iv ty, Iv f]) Tryd.func72 rfl rfl ?_
 refine zd (za kr (fun _ => (st (zT (v := .agg (d.cells dd0 dd1).toArray) rfl ?_))))
 intro w3 b2 be
 have bf := hS0.new be
 refine st (zB Tryd.zeroValue79 ?_)
 intro w7 N bg
 have l := bf.new bg
 refine st (ze (v := .bool false) rfl (zf (zd (zd (zF kr (st (zb (v := Iv ty) rfl (st (zL (k := .i64) (a := ty) (b := 0) rfl rfl (st (zb (v := .bool (decide (ty < 0))) rfl (stc (V := Iv ty) rfl rfl (fun bh => ?_) ?_))))))))))))
 have O := bh
 have O := fD O
 exact zb (v := Iv ty) rfl ⟨rfl, rfl⟩
 refine stc (V := Ix b2 0) rfl rfl (fun ay => ?_) ?_
 have P := ay
 have P := fD P
 exact yo rfl ⟨rfl, rfl⟩
 refine stc (V := dd0) rfl rfl (fun Q => ?_) ?_
 have R := Q
 have R := fD R
 exact zg (v := dd0) Tryd.isAgg22 (show _ = (Ix b2 0 : Value) from (if_pos Q)) (zh (l.blk (i := 1) rfl) rfl) ⟨rfl, rfl⟩
 refine stc (V := Iw d.types.length) rfl rfl (fun S => ?_) ?_
 have T := S
 have T := fD T
 exact zJ (n := d.types.length) Tryd.underlying22 (show _ = (dd0 : Value) from (if_pos S)) hdd0.sl ⟨rfl, rfl⟩
 refine stc (V := .bool (decide (((d.types.length : Nat) : Int) ≤ ty))) rfl rfl (fun t => ?_) ?_
 have U := t
 have U := fD U
 exact yY (k := .i64) (a := ty) (b := ((d.types.length : Nat) : Int)) (show _ = (Iv ty : Value) from (if_pos t)) (show _ = (Iw d.types.length : Value) from (if_pos t)) ⟨rfl, rfl⟩
 refine st (zG (b := decide (ty < 0)) (b' := decide (((d.types.length : Nat) : Int) ≤ ty)) rfl (fun hbp => (show _ = (.bool (decide (((d.types.length : Nat) : Int) ≤ ty)) : Value) from (if_pos hbp))) (st (zb (v := .bool ((decide (ty < 0)) || (decide (((d.types.length : Nat) : Int) ≤ ty)))) rfl (stc (V := Iv f) rfl rfl (fun az => ?_) ?_))))
 have aA := az
 try simp only [zj] at aA
 exact zb (v := Iv f) rfl ⟨rfl, rfl⟩
 refine stc (V := .bool (decide (f < 0))) rfl rfl (fun X => ?_) ?_
 have aB := X
 try simp only [zj] at aB
 exact zL (k := .i64) (a := f) (b := 0) (show _ = (Iv f : Value) from (if_pos X)) rfl ⟨rfl, rfl⟩
 refine st (zG (b := (decide (ty < 0)) || (decide (((d.types.length : Nat) : Int) ≤ ty))) (b' := decide (f < 0)) rfl (fun hbp => (show _ = (.bool (decide (f < 0)) : Value) from (if_pos hbp))) (st (zb (v := .bool (((decide (ty < 0)) || (decide (((d.types.length : Nat) : Int) ≤ ty))) || (decide (f < 0)))) rfl (stc (V := Iv f) rfl rfl (fun aC => ?_) ?_))))
 have aD := aC
 try simp only [zj] at aD
 exact zb (v := Iv f) rfl ⟨rfl, rfl⟩
 refine stc (V := Ix b2 0) rfl rfl (fun aE => ?_) ?_
 have aF := aE
 try simp only [zj] at aF
 exact yo rfl ⟨rfl, rfl⟩
 refine stc (V := dd0) rfl rfl (fun Y => ?_) ?_
 have aG := Y
 try simp only [zj] at aG
 exact zg (v := dd0) Tryd.isAgg22 (show _ = (Ix b2 0 : Value) from (if_pos Y)) (zh (l.blk (i := 1) rfl) rfl) ⟨rfl, rfl⟩
 refine stc (V := Iv ty) rfl rfl (fun aH => ?_) ?_
 have aI := aH
 try simp only [zj] at aI
 exact zb (v := Iv ty) rfl ⟨rfl, rfl⟩
 refine stc (V := Ix (sb dd0) (so dd0 + ty.toNat * 1)) rfl rfl (fun u => ?_) ?_
 have aJ := u
 try simp only [zj] at aJ
 have hi33 : ty.toNat < d.types.length := bo
 exact zz (k := 1) (i := ty) Tryd.underlying22 Tryd.sizeOf33 (show _ = (dd0 : Value) from (if_pos u)) hdd0.sl (show _ = (Iv ty : Value) from (if_pos u)) ⟨by omega, by omega⟩ ⟨rfl, rfl⟩
 refine stc (V := Ix (sb dd0) (so dd0 + ty.toNat * 1)) rfl rfl (fun Z => ?_) ?_
 have aK := Z
 try simp only [zj] at aK
 exact yA (show _ = (Ix (sb dd0) (so dd0 + ty.toNat * 1) : Value) from (if_pos Z)) ⟨rfl, rfl⟩
 refine stc (V := (zi W (sb dd0) (so dd0 + ty.toNat * 1 + 0))) rfl rfl (fun aa => ?_) ?_
 have aL := aa
 try simp only [zj] at aL
 have x : ty.toNat < d.types.length := bo
 obtain ⟨H, p, ab⟩ := hdd0.typ x
 rw [← zm default x] at H p ab
 have hsm40 : ((d.types.getD ty.toNat default).fields).length * 48 ≤ 140737488355328 := p.small
 have al := l.cells H (hdd0.foot (ne_of_lt x))
 exact zg (v := (zi W (sb dd0) (so dd0 + ty.toNat * 1 + 0))) Tryd.isAgg31 (show _ = (Ix (sb dd0) (so dd0 + ty.toNat * 1) : Value) from (if_pos aa)) (al.get (j := 0) rfl) ⟨rfl, rfl⟩
 refine stc (V := Iw (((d.types.getD ty.toNat default).fields).length)) rfl rfl (fun ac => ?_) ?_
 have aM := ac
 try simp only [zj] at aM
 have y : ty.toNat < d.types.length := bo
 obtain ⟨I, m, ad⟩ := hdd0.typ y
 rw [← zm default y] at I m ad
 have hsm46 : ((d.types.getD ty.toNat default).fields).length * 48 ≤ 140737488355328 := m.small
 have hcw47 := l.cells I (hdd0.foot (ne_of_lt y))
 exact zJ (n := ((d.types.getD ty.toNat default).fields).length) Tryd.underlying31 (show _ = ((zi W (sb dd0) (so dd0 + ty.toNat * 1 + 0)) : Value) from (if_pos ac)) m.sl ⟨rfl, rfl⟩
 refine stc (V := .bool (decide (((((d.types.getD ty.toNat default).fields).length : Nat) : Int) ≤ f))) rfl rfl (fun z => ?_) ?_
 have aN := z
 try simp only [zj] at aN
 exact yY (k := .i64) (a := f) (b := ((((d.types.getD ty.toNat default).fields).length : Nat) : Int)) (show _ = (Iv f : Value) from (if_pos z)) (show _ = (Iw (((d.types.getD ty.toNat default).fields).length) : Value) from (if_pos z)) ⟨rfl, rfl⟩
 refine st (zG (b := ((decide (ty < 0)) || (decide (((d.types.length : Nat) : Int) ≤ ty))) || (decide (f < 0))) (b' := decide (((((d.types.getD ty.toNat default).fields).length : Nat) : Int) ≤ f)) rfl (fun hbp => (show _ = (.bool (decide (((((d.types.getD ty.toNat default).fields).length : Nat) : Int) ≤ f)) : Value) from (if_pos hbp))) (zf ?_))
 cases ae : (((decide (ty < 0)) || (decide (((d.types.length : Nat) : Int) ≤ ty))) || (decide (f < 0))) || (decide (((((d.types.getD ty.toNat default).fields).length : Nat) : Int) ≤ f))
 try simp only [zj] at ae
 refine zn rfl (zv (zd (za kr (fun _ => (st (yo rfl (st (zg (v := dd0) Tryd.isAgg22 rfl (zh (l.blk (i := 1) rfl) rfl) (st (zb (v := Iv ty) rfl ?_))))))))))
 have hi51 : ty.toNat < d.types.length := bo
 refine st (zz (k := 1) (i := ty) Tryd.underlying22 Tryd.sizeOf33 rfl hdd0.sl rfl ⟨by omega, by omega⟩ (st (yA rfl ?_)))
 have A : ty.toNat < d.types.length := bo
 obtain ⟨J, g, af⟩ := hdd0.typ A
 rw [← zm default A] at J g af
 have hsm54 : ((d.types.getD ty.toNat default).fields).length * 48 ≤ 140737488355328 := g.small
 have am := l.cells J (hdd0.foot (ne_of_lt A))
 refine st (zg (v := (zi W (sb dd0) (so dd0 + ty.toNat * 1 + 0))) Tryd.isAgg31 rfl (am.get (j := 0) rfl) (st (zb (v := Iv f) rfl ?_)))
 have hi56 : f.toNat < ((d.types.getD ty.toNat default).fields).length := bo
 refine st (zz (k := 4) (i := f) Tryd.underlying31 Tryd.sizeOf79 rfl g.sl rfl ⟨by omega, by omega⟩ ?_)
 have B : f.toNat < ((d.types.getD ty.toNat default).fields).length := bo
 obtain ⟨K, e, o⟩ := g.fld B
 rw [← zm default B] at K e o
 have hsm59 : ((((d.types.getD ty.toNat default).fields).getD f.toNat default).moves).length * 32 ≤ 140737488355328 := e.small
 have an := l.cells K (g.foot (ne_of_lt B))
 refine st (zl (k := 4) Tryd.isAgg79 Tryd.sizeOf79 rfl rfl an (st (zB Tryd.zeroValue79 ?_)))
 intro w63 ag aO
 have ah := l.new aO
 refine stn (zy (v := .agg ((((d.types.getD ty.toNat default).fields).getD f.toNat default).cells (zi W (sb (zi W (sb dd0) (so dd0 + ty.toNat * 1 + 0))) (so (zi W (sb dd0) (so dd0 + ty.toNat * 1 + 0)) + f.toNat * 4 + 3))).toArray) (c' := ((((d.types.getD ty.toNat default).fields).getD f.toNat default).cells (zi W (sb (zi W (sb dd0) (so dd0 + ty.toNat * 1 + 0))) (so (zi W (sb dd0) (so dd0 + ty.toNat * 1 + 0)) + f.toNat * 4 + 3))).toArray) Tryd.sizeOf79 rfl rfl (ah.blk (i := 0) rfl) (ya ⟨rfl, rfl, rfl, e.sl.one, trivial⟩) (Nat.le_of_ble_eq_true rfl) rfl ?_)
 intro bi aP
 have aQ := ah.pt0 aP
 refine zf (zd (za kr (fun _ => (st (ze (v := (Iz)) rfl (zf (zd (zd (za kr (fun _ => (st (ze (v := Iv 0) rfl (zf (zw ?_))))))))))))))
 have aR : Sep G W ((RowE (α := Mv) own 115 (Iz) ([] : List Mv)) :: (Blk ag ((((d.types.getD ty.toNat default).fields).getD f.toNat default).cells (zi W (sb (zi W (sb dd0) (so dd0 + ty.toNat * 1 + 0))) (so (zi W (sb dd0) (so dd0 + ty.toNat * 1 + 0)) + f.toNat * 4 + 3))).toArray 79) :: (Blk N #[Iv 0, Iv 0, .bool false, (Iz)] 79) :: (Blk b2 (d.cells dd0 dd1).toArray 25) :: Rs) bi := aQ.rowNil own 115
 refine yd (fun mq σ wq => ∃ (k : Nat) (vm : Value) (ρ : Env), mq = ((d.types.getD ty.toNat default).fields.getD f.toNat default).moves.length - k ∧ σ = yh ρ [(3, Ix b2 0), (6, Ix N 0), (8, Ix ag 0), (10, Iw k), (9, vm)] ∧ (k ≤ ((d.types.getD ty.toNat default).fields.getD f.toNat default).moves.length) ∧ Sep G W ((RowE (α := Mv) own 115 vm (((d.types.getD ty.toNat default).fields.getD f.toNat default).moves.take k)) :: (Blk ag ((((d.types.getD ty.toNat default).fields).getD f.toNat default).cells (zi W (sb (zi W (sb dd0) (so dd0 + ty.toNat * 1 + 0))) (so (zi W (sb dd0) (so dd0 + ty.toNat * 1 + 0)) + f.toNat * 4 + 3))).toArray 79) :: (Blk N #[Iv 0, Iv 0, .bool false, (Iz)] 79) :: (Blk b2 (d.cells dd0 dd1).toArray 25) :: Rs) wq) ⟨0, (Iz), _, rfl, zq ⟨rfl, rfl, rfl, rfl, rfl, trivial⟩, Nat.zero_le _, aR⟩ ?_
 rintro m70 σ71 w69 ⟨k, vm, ρl1, rfl, rfl, hkk, h⟩
 have aS := h.row (i := 0) rfl
 have hr73s : _ * 32 ≤ _ := aS.2
 refine zd (zd (za kr (fun _ => (st (zb (v := Iw k) rfl (st (yz rfl (st (zg (v := (zi W (sb (zi W (sb dd0) (so dd0 + ty.toNat * 1 + 0))) (so (zi W (sb dd0) (so dd0 + ty.toNat * 1 + 0)) + f.toNat * 4 + 3))) Tryd.isAgg77 rfl (zh (h.blk (i := 1) rfl) rfl) (st (zJ (n := ((((d.types.getD ty.toNat default).fields).getD f.toNat default).moves).length) Tryd.underlying77 rfl e.sl (st (zL (k := .i64) (a := ((k : Nat) : Int)) (b := ((((((d.types.getD ty.toNat default).fields).getD f.toNat default).moves).length : Nat) : Int)) rfl rfl (zf ?_))))))))))))))
 cases q : decide (((k : Nat) : Int) < ((((((d.types.getD ty.toNat default).fields).getD f.toNat default).moves).length : Nat) : Int))
 have q := fD q
 have hkn : k = ((d.types.getD ty.toNat default).fields.getD f.toNat default).moves.length := by omega
 rw [hkn, List.take_of_length_le (Nat.le_refl ((d.types.getD ty.toNat default).fields.getD f.toNat default).moves.length)] at h
 have C := h.row (i := 0) rfl
 have hr75s : _ * 32 ≤ _ := C.2
 refine zn rfl (yc (zU (zd (za kr (fun _ => (st (zb (v := vm) rfl (st (yz rfl (stn (yv (v := vm) (c := [Iv ((((d.types.getD ty.toNat default).fields).getD f.toNat default).kind), Iv ((((d.types.getD ty.toNat default).fields).getD f.toNat default).policy), .bool ((((d.types.getD ty.toNat default).fields).getD f.toNat default).floor), (zi W (sb (zi W (sb dd0) (so dd0 + ty.toNat * 1 + 0))) (so (zi W (sb dd0) (so dd0 + ty.toNat * 1 + 0)) + f.toNat * 4 + 3))]) (c' := [Iv ((((d.types.getD ty.toNat default).fields).getD f.toNat default).kind), Iv ((((d.types.getD ty.toNat default).fields).getD f.toNat default).policy), .bool ((((d.types.getD ty.toNat default).fields).getD f.toNat default).floor), vm]) Tryd.sizeOf77 rfl rfl (h.blk (i := 1) rfl) C.1.one rfl rfl ?_)))))))))))
 intro w76 aT
 have aU : Fld.Ok (⟨(((d.types.getD ty.toNat default).fields).getD f.toNat default).kind, (((d.types.getD ty.toNat default).fields).getD f.toNat default).policy, (((d.types.getD ty.toNat default).fields).getD f.toNat default).floor, ((d.types.getD ty.toNat default).fields.getD f.toNat default).moves⟩ : Fld) := ⟨(show InR ((((d.types.getD ty.toNat default).fields).getD f.toNat default).kind) from o.kind), (show InR ((((d.types.getD ty.toNat default).fields).getD f.toNat default).policy) from o.policy)⟩
 have D := h.pt1 aT
 refine zf (zd (za kr (fun _ => (st (zl (k := 4) Tryd.isAgg79 Tryd.sizeOf79 rfl rfl (CellsAt.all (D.blk (i := 1) rfl)) (stn (zy (v := .agg ((⟨(((d.types.getD ty.toNat default).fields).getD f.toNat default).kind, (((d.types.getD ty.toNat default).fields).getD f.toNat default).policy, (((d.types.getD ty.toNat default).fields).getD f.toNat default).floor, ((d.types.getD ty.toNat default).fields.getD f.toNat default).moves⟩ : Fld).cells vm).toArray) (c' := ((⟨(((d.types.getD ty.toNat default).fields).getD f.toNat default).kind, (((d.types.getD ty.toNat default).fields).getD f.toNat default).policy, (((d.types.getD ty.toNat default).fields).getD f.toNat default).floor, ((d.types.getD ty.toNat default).fields.getD f.toNat default).moves⟩ : Fld).cells vm).toArray) Tryd.sizeOf79 rfl rfl (D.blk (i := 2) rfl) (ya ⟨rfl, rfl, rfl, C.1.one, trivial⟩) (Nat.le_of_ble_eq_true rfl) rfl ?_)))))))
 intro w80 aV
 have ai := D.pt2 aV
 refine st (ze (v := .bool true) rfl (zf (zt (Zt (b := N) Tryd.results72 Tryd.isAgg79 Tryd.sizeOf79 rfl rfl (CellsAt.all (ai.blk (i := 2) rfl)) (show _ = (.bool true : Value) from rfl) ?_))))
 have aW := ai.s4_a
 have hB : yr d ty f = true := by unfold yr; simp only [Bool.and_eq_true, decide_eq_true_eq]; omega
 have hz : zI d ty f = (⟨(((d.types.getD ty.toNat default).fields).getD f.toNat default).kind, (((d.types.getD ty.toNat default).fields).getD f.toNat default).policy, (((d.types.getD ty.toNat default).fields).getD f.toNat default).floor, ((d.types.getD ty.toNat default).fields.getD f.toNat default).moves⟩ : Fld) := by unfold zI; rw [hB]; rfl
 rw [hz, hB]
 refine ⟨vm, rfl, ?_, aW⟩
 exact aU
 have q := tD q
 refine zo rfl (zv (zd (zw (za kr (fun _ => (st (zb (v := vm) rfl (st (yz rfl (st (zg (v := (zi W (sb (zi W (sb dd0) (so dd0 + ty.toNat * 1 + 0))) (so (zi W (sb dd0) (so dd0 + ty.toNat * 1 + 0)) + f.toNat * 4 + 3))) Tryd.isAgg77 rfl (zh (h.blk (i := 1) rfl) rfl) (st (zb (v := Iw k) rfl ?_)))))))))))))
 have aX : k < ((((d.types.getD ty.toNat default).fields).getD f.toNat default).moves).length := bo
 refine st (zk (k := 4) (i := k) Tryd.underlying77 Tryd.sizeOf115 rfl e.sl rfl aX ?_)
 have E : k < ((((d.types.getD ty.toNat default).fields).getD f.toNat default).moves).length := bo
 obtain ⟨L, s⟩ := e.mv E
 rw [← zm default E] at L s
 have ao := h.cells L (e.foot (ne_of_lt E))
 refine st (zl (k := 4) Tryd.isAgg115 Tryd.sizeOf115 rfl rfl ao (st (zD (k := 4) (parts' := [(0, .agg ((((((d.types.getD ty.toNat default).fields).getD f.toNat default).moves).getD k default).cells).toArray)]) (c := ((((((d.types.getD ty.toNat default).fields).getD f.toNat default).moves).getD k default).cells).toArray) Tryd.underlying77 Tryd.sizeOf115 Tryd.zeroValue115 dc rfl kr ?_)))
 intro w90 b89 aY
 have ak := h.new aY
 have ap := ak.blk (i := 0) rfl
 have aZ := ak.s5_bcde
 have ba := aZ.emp1
 refine st (yp (src := own) (bytes := 32) (x1 := (((((d.types.getD ty.toNat default).fields).getD f.toNat default).moves).getD k default)) ba Kh rfl rfl ap (fun _ _ _ => (show _ from ⟨rfl, s⟩)) (by first | omega | (simp only [List.length_append, List.length_cons, List.length_nil, List.length_take, List.length_drop]; omega)) rfl ?_)
 intro ax w92 F
 have bb := F.row (i := 0) rfl
 have hr98s : _ * 32 ≤ _ := bb.2
 refine st (ze (v := ax) rfl (zf (za kr (fun _ => (st (zb (v := Iw k) rfl ?_))))))
 have bc : InR ((k + 1 : Nat) : Int) := bo
 refine st (zV (r := ((k + 1 : Nat) : Int)) (k := .i64) (a := ((k : Nat) : Int)) (b := 1) rfl rfl (by rw [show (((k : Nat) : Int) + 1 : Int) = ((k + 1 : Nat) : Int) from bo]; exact zM bc) (st (ze (v := Iw (k + 1)) rfl (zf ?_))))
 have aq : (((d.types.getD ty.toNat default).fields.getD f.toNat default).moves.take (k + 1)) = (((d.types.getD ty.toNat default).fields.getD f.toNat default).moves.take k) ++ [(((((d.types.getD ty.toNat default).fields).getD f.toNat default).moves).getD k default)] := (List.take_getD om)
 rw [← aq] at F
 exact ⟨_, by omega, k + 1, ax, _, rfl, zq ⟨rfl, rfl, rfl, rfl, rfl, trivial⟩, by omega, F⟩
 try simp only [zj] at ae
 refine zo rfl (zd (za kr (fun _ => ?_)))
 have ar : Fld.Ok (⟨0, 0, false, []⟩ : Fld) := ⟨(show InR (0) from dc), (show InR (0) from dc)⟩
 refine st (zQ (parts' := []) (v := .agg ((⟨0, 0, false, []⟩ : Fld).cells (Iz)).toArray) rfl (by simp [Instr.build, Instr.fill, Ev.cells, go_sem, Mv.cells, Fld.cells, Typ.cells, Prj.cells, Dcl.cells, Cel.cells, AskR.cells, Ask.cells, CelS.cells, Ev.cells, Ent.cells, Sta.cells]) (stn (zy (v := .agg ((⟨0, 0, false, []⟩ : Fld).cells (Iz)).toArray) (c' := ((⟨0, 0, false, []⟩ : Fld).cells (Iz)).toArray) Tryd.sizeOf79 rfl rfl (l.blk (i := 0) rfl) (ya ⟨rfl, rfl, rfl, rfl, trivial⟩) (Nat.le_of_ble_eq_true rfl) rfl ?_)))
 intro bd au
 have M := l.pt0 au
 refine st (ze (v := .bool false) rfl (zf (zt (Zt (b := N) Tryd.results72 Tryd.isAgg79 Tryd.sizeOf79 rfl rfl (CellsAt.all (M.blk (i := 0) rfl)) (show _ = (.bool false : Value) from rfl) ?_))))
 have av : Sep G W ((RowE (α := Mv) own 115 (Iz) ([] : List Mv)) :: (Blk N ((⟨0, 0, false, []⟩ : Fld).cells (Iz)).toArray 79) :: (Blk b2 (d.cells dd0 dd1).toArray 25) :: Rs) bd := M.rowNil own 115
 have aw := av.s3_a
 have hB : yr d ty f = false := by unfold yr; rw [Bool.eq_false_iff]; intro h9; simp only [Bool.and_eq_true, decide_eq_true_eq] at h9; omega
 have hz : zI d ty f = (⟨0, 0, false, []⟩ : Fld) := by unfold zI; rw [hB]; rfl
 rw [hz, hB]
 refine ⟨(Iz), rfl, ?_, aw⟩
 exact ar

theorem Ui {G : Nat → Prop} {W w : World} {Rs : List HP} {d : Dcl} {dd0 : Value} (hdd0 : RdS W G dd0 d.types) {dd1 : Value} (hdd1 : RdS W G dd1 d.projs) (od : d.Ok) {ty : Int} (hty : InR ty) {f : Int} (hf : InR f) {op : Int} (hop : InR op) {arg : Int} (harg : InR arg) (hS0 : Sep G W Rs w) : Ret Tryd.prog 89 [.agg (d.cells dd0 dd1).toArray, .int .i64 (ty), .int .i64 (f), .int .i64 (op), .int .i64 (arg)] w (fun r w' => r = (.int .i64 (yJ d ty f op arg) : Value) ∧ Sep G W Rs w') := by
 have hdd0s : _ * 24 ≤ _ := hdd0.small
 have hdd1s : _ * 40 ≤ _ := hdd1.small
 refine zr (args := [.agg (d.cells dd0 dd1).toArray, Iv ty, Iv f, Iv op, Iv arg]) Tryd.func89 rfl rfl ?_
 refine zd (za kr (fun _ => (st (zT (v := .agg (d.cells dd0 dd1).toArray) rfl ?_))))
 intro w3 b2 ah
 have K := hS0.new ah
 refine st (ze (v := Iv 0) rfl (zf (zd (za kr (fun _ => (st (zl (k := 2) Tryd.isAgg25 Tryd.sizeOf25 rfl rfl (CellsAt.all (K.blk (i := 0) rfl)) (st (zb (v := Iv ty) rfl (st (zb (v := Iv f) rfl (st (zu (f := 72) (vals := [.agg (d.cells dd0 dd1).toArray, Iv ty, Iv f]) (cap := []) rfl rfl Tryd.call72 (Vj (d := d) (ty := ty) (f := f) hdd0 hdd1 od hty hf K) ?_)))))))))))))
 rintro _ w7 ⟨e, rfl, hfok6, L⟩
 have y := L.row (i := 0) rfl
 have hr9s : _ * 32 ≤ _ := y.2
 refine st (zb (v := .tuple #[.agg ((zI d ty f).cells e).toArray, .bool ((yr d ty f))]) rfl (st (zE (vs := [.agg ((zI d ty f).cells e).toArray, .bool ((yr d ty f))]) (i := 0) (v := .agg ((zI d ty f).cells e).toArray) rfl rfl (st (zE (vs := [.agg ((zI d ty f).cells e).toArray, .bool ((yr d ty f))]) (i := 1) (v := .bool ((yr d ty f))) rfl rfl (st (zB Tryd.zeroValue79 ?_)))))))
 intro w12 M N
 have z := L.new N
 refine stn (zy (v := .agg ((zI d ty f).cells e).toArray) (c' := ((zI d ty f).cells e).toArray) Tryd.sizeOf79 rfl rfl (z.blk (i := 0) rfl) (ya ⟨rfl, rfl, rfl, y.1.one, trivial⟩) (Nat.le_of_ble_eq_true rfl) rfl ?_)
 intro w14 O
 have c := z.pt0 O
 refine st (ze (v := .bool ((yr d ty f))) rfl (zf (zd (zd (za kr (fun _ => (st (zb (v := .bool ((yr d ty f))) rfl (st (yt (a := (yr d ty f)) rfl (zf ?_)))))))))))
 cases A : !(yr d ty f)
 try simp only [zj] at A
 refine zn rfl (zv (zd (zd (za kr (fun _ => (st (zb (v := Iv op) rfl (zf (zw (zd (za kr (fun _ => (st (zP (k := .i64) (a := op) (b := 1) rfl rfl (st (ze (v := .bool (decide (op = 1))) rfl (zf ?_)))))))))))))))))
 cases g : decide (op = 1)
 have g := fD g
 refine zn rfl (zd (za kr (fun _ => (st (zP (k := .i64) (a := op) (b := 2) rfl rfl (st (ze (v := .bool (decide (op = 2))) rfl (zf ?_))))))))
 cases h : decide (op = 2)
 have h := fD h
 refine zn rfl (zd (zd (za kr (fun _ => (st (zP (k := .i64) (a := op) (b := 3) rfl rfl (st (ze (v := .bool (decide (op = 3))) rfl (zf ?_)))))))))
 cases j : decide (op = 3)
 have j := fD j
 refine zn rfl (za kr (fun _ => (st (zP (k := .i64) (a := op) (b := 4) rfl rfl (st (ze (v := .bool (decide (op = 4))) rfl (zf ?_)))))))
 cases l : decide (op = 4)
 have l := fD l
 refine zn rfl (zd (za kr (fun _ => (st (zP (k := .i64) (a := op) (b := 5) rfl rfl (st (ze (v := .bool (decide (op = 5))) rfl (zf ?_))))))))
 cases m : decide (op = 5)
 have m := fD m
 refine zn rfl (zd (za kr (fun _ => (st (ze (v := Iv 2) rfl (zf (zt (zO Tryd.results89 (show _ = (Iv 2 : Value) from rfl) ?_))))))))
 have P := c.s3_
 refine ⟨?_, P⟩
 congr 1
 rw [yQ]
 ·repeat first | rfl | rw [if_pos (by first | assumption | omega)] | rw [if_neg (by first | assumption | omega | simp_all)]
 have m := tD m
 refine zo rfl (zd (zd (za kr (fun _ => (st (xb rfl (st (zg (v := Iv ((zI d ty f).kind)) Tryd.isAgg3 rfl (zh (c.blk (i := 0) rfl) rfl) (st (yq (k := .i64) (a := (zI d ty f).kind) (b := 4) rfl rfl (zf ?_)))))))))))
 cases o : !decide (((zI d ty f).kind) = 4)
 have o := zC o
 refine zn rfl (zv (zd (zF kr (st (zb (v := Iv arg) rfl (st (zL (k := .i64) (a := arg) (b := 0) rfl rfl (st (zb (v := .bool (decide (arg < 0))) rfl (stc (V := Iv arg) rfl rfl (fun Q => ?_) ?_))))))))))
 have B := Q
 have B := fD B
 exact zb (v := Iv arg) rfl ⟨rfl, rfl⟩
 refine stc (V := Ix M 3) rfl rfl (fun R => ?_) ?_
 have C := R
 have C := fD C
 exact yz rfl ⟨rfl, rfl⟩
 refine stc (V := e) rfl rfl (fun D => ?_) ?_
 have E := D
 have E := fD E
 exact zg (v := e) Tryd.isAgg77 (show _ = (Ix M 3 : Value) from (if_pos D)) (zh (c.blk (i := 0) rfl) rfl) ⟨rfl, rfl⟩
 refine stc (V := Iw (((zI d ty f).moves).length)) rfl rfl (fun F => ?_) ?_
 have H := F
 have H := fD H
 exact zJ (n := ((zI d ty f).moves).length) Tryd.underlying77 (show _ = (e : Value) from (if_pos F)) y.1 ⟨rfl, rfl⟩
 refine stc (V := .bool (decide (((((zI d ty f).moves).length : Nat) : Int) ≤ arg))) rfl rfl (fun x => ?_) ?_
 have I := x
 have I := fD I
 exact yY (k := .i64) (a := arg) (b := ((((zI d ty f).moves).length : Nat) : Int)) (show _ = (Iv arg : Value) from (if_pos x)) (show _ = (Iw (((zI d ty f).moves).length) : Value) from (if_pos x)) ⟨rfl, rfl⟩
 refine st (zG (b := decide (arg < 0)) (b' := decide (((((zI d ty f).moves).length : Nat) : Int) ≤ arg)) rfl (fun hbp => (show _ = (.bool (decide (((((zI d ty f).moves).length : Nat) : Int) ≤ arg)) : Value) from (if_pos hbp))) (zf ?_))
 cases J : (decide (arg < 0)) || (decide (((((zI d ty f).moves).length : Nat) : Int) ≤ arg))
 try simp only [zj] at J
 refine zn rfl (zv (zd (za kr (fun _ => (st (ze (v := Iv 0) rfl (zf (zt (zO Tryd.results89 (show _ = (Iv 0 : Value) from rfl) ?_)))))))))
 have S := c.s3_
 refine ⟨?_, S⟩
 congr 1
 rw [yQ]
 ·repeat first | rfl | rw [if_pos (by first | assumption | omega)] | rw [if_neg (by first | assumption | omega | simp_all)]
 try simp only [zj] at J
 refine zo rfl (zd (za kr (fun _ => (st (ze (v := Iv 1) rfl (zf (zt (zO Tryd.results89 (show _ = (Iv 1 : Value) from rfl) ?_))))))))
 have T := c.s3_
 refine ⟨?_, T⟩
 congr 1
 rw [yQ]
 ·repeat first | rfl | rw [if_pos (by first | assumption | omega)] | rw [if_neg (by first | assumption | omega | simp_all)]
 have o := zR o
 refine zo rfl (zd (za kr (fun _ => (st (ze (v := Iv 2) rfl (zf (zt (zO Tryd.results89 (show _ = (Iv 2 : Value) from rfl) ?_))))))))
 have U := c.s3_
 refine ⟨?_, U⟩
 congr 1
 rw [yQ]
 ·repeat first | rfl | rw [if_pos (by first | assumption | omega)] | rw [if_neg (by first | assumption | omega | simp_all)]
 have l := tD l
 refine zo rfl (zd (za kr (fun _ => (st (xb rfl (st (zg (v := Iv ((zI d ty f).kind)) Tryd.isAgg3 rfl (zh (c.blk (i := 0) rfl) rfl) (st (yq (k := .i64) (a := (zI d ty f).kind) (b := 3) rfl rfl (zf ?_))))))))))
 cases p : !decide (((zI d ty f).kind) = 3)
 have p := zC p
 refine zn rfl (zv (zd (za kr (fun _ => (st (ze (v := Iv 0) rfl (zf (zt (zO Tryd.results89 (show _ = (Iv 0 : Value) from rfl) ?_)))))))))
 have X := c.s3_
 refine ⟨?_, X⟩
 congr 1
 rw [yQ]
 ·repeat first | rfl | rw [if_pos (by first | assumption | omega)] | rw [if_neg (by first | assumption | omega | simp_all)]
 have p := zR p
 refine zo rfl (zd (za kr (fun _ => (st (ze (v := Iv 2) rfl (zf (zt (zO Tryd.results89 (show _ = (Iv 2 : Value) from rfl) ?_))))))))
 have Y := c.s3_
 refine ⟨?_, Y⟩
 congr 1
 rw [yQ]
 ·repeat first | rfl | rw [if_pos (by first | assumption | omega)] | rw [if_neg (by first | assumption | omega | simp_all)]
 have j := tD j
 refine zo rfl (zv (zo rfl (zd (za kr (fun _ => (st (xb rfl (st (zg (v := Iv ((zI d ty f).kind)) Tryd.isAgg3 rfl (zh (c.blk (i := 0) rfl) rfl) (st (yq (k := .i64) (a := (zI d ty f).kind) (b := 3) rfl rfl (zf ?_))))))))))))
 cases q : !decide (((zI d ty f).kind) = 3)
 have q := zC q
 refine zn rfl (zv (zd (za kr (fun _ => (st (ze (v := Iv 0) rfl (zf (zt (zO Tryd.results89 (show _ = (Iv 0 : Value) from rfl) ?_)))))))))
 have Z := c.s3_
 refine ⟨?_, Z⟩
 congr 1
 rw [yQ]
 ·repeat first | rfl | rw [if_pos (by first | assumption | omega)] | rw [if_neg (by first | assumption | omega | simp_all)]
 have q := zR q
 refine zo rfl (zd (za kr (fun _ => (st (ze (v := Iv 2) rfl (zf (zt (zO Tryd.results89 (show _ = (Iv 2 : Value) from rfl) ?_))))))))
 have aa := c.s3_
 refine ⟨?_, aa⟩
 congr 1
 rw [yQ]
 ·repeat first | rfl | rw [if_pos (by first | assumption | omega)] | rw [if_neg (by first | assumption | omega | simp_all)]
 have h := tD h
 refine zo rfl (zd (za kr (fun _ => (st (xb rfl (st (zg (v := Iv ((zI d ty f).kind)) Tryd.isAgg3 rfl (zh (c.blk (i := 0) rfl) rfl) (st (yq (k := .i64) (a := (zI d ty f).kind) (b := 2) rfl rfl (zf ?_))))))))))
 cases s : !decide (((zI d ty f).kind) = 2)
 have s := zC s
 refine zn rfl (zv (zd (za kr (fun _ => (st (ze (v := Iv 0) rfl (zf (zt (zO Tryd.results89 (show _ = (Iv 0 : Value) from rfl) ?_)))))))))
 have ab := c.s3_
 refine ⟨?_, ab⟩
 congr 1
 rw [yQ]
 ·repeat first | rfl | rw [if_pos (by first | assumption | omega)] | rw [if_neg (by first | assumption | omega | simp_all)]
 have s := zR s
 refine zo rfl (zd (za kr (fun _ => (st (ze (v := Iv 2) rfl (zf (zt (zO Tryd.results89 (show _ = (Iv 2 : Value) from rfl) ?_))))))))
 have ac := c.s3_
 refine ⟨?_, ac⟩
 congr 1
 rw [yQ]
 ·repeat first | rfl | rw [if_pos (by first | assumption | omega)] | rw [if_neg (by first | assumption | omega | simp_all)]
 have g := tD g
 refine zo rfl (zd (zd (za kr (fun _ => (st (xb rfl (st (zg (v := Iv ((zI d ty f).kind)) Tryd.isAgg3 rfl (zh (c.blk (i := 0) rfl) rfl) (st (yq (k := .i64) (a := (zI d ty f).kind) (b := 1) rfl rfl (zf ?_)))))))))))
 cases t : !decide (((zI d ty f).kind) = 1)
 have t := zC t
 refine zn rfl (zv (zd (za kr (fun _ => (st (zb (v := Iv arg) rfl (st (zP (k := .i64) (a := arg) (b := 0) rfl rfl (zf ?_)))))))))
 cases u : decide (arg = 0)
 have u := fD u
 refine zn rfl (zv (zd (za kr (fun _ => (st (ze (v := Iv 0) rfl (zf (zt (zO Tryd.results89 (show _ = (Iv 0 : Value) from rfl) ?_)))))))))
 have ad := c.s3_
 refine ⟨?_, ad⟩
 congr 1
 rw [yQ]
 ·repeat first | rfl | rw [if_pos (by first | assumption | omega)] | rw [if_neg (by first | assumption | omega | simp_all)]
 have u := tD u
 refine zo rfl (zd (za kr (fun _ => (st (ze (v := Iv 1) rfl (zf (zt (zO Tryd.results89 (show _ = (Iv 1 : Value) from rfl) ?_))))))))
 have ae := c.s3_
 refine ⟨?_, ae⟩
 congr 1
 rw [yQ]
 ·repeat first | rfl | rw [if_pos (by first | assumption | omega)] | rw [if_neg (by first | assumption | omega | simp_all)]
 have t := zR t
 refine zo rfl (zd (za kr (fun _ => (st (ze (v := Iv 2) rfl (zf (zt (zO Tryd.results89 (show _ = (Iv 2 : Value) from rfl) ?_))))))))
 have af := c.s3_
 refine ⟨?_, af⟩
 congr 1
 rw [yQ]
 ·repeat first | rfl | rw [if_pos (by first | assumption | omega)] | rw [if_neg (by first | assumption | omega | simp_all)]
 try simp only [zj] at A
 refine zo rfl (zd (za kr (fun _ => (st (ze (v := Iv 8) rfl (zf (zt (zO Tryd.results89 (show _ = (Iv 8 : Value) from rfl) ?_))))))))
 have ag := c.s3_
 refine ⟨?_, ag⟩
 congr 1
 rw [yQ]
 ·repeat first | rfl | rw [if_pos (by first | assumption | omega)] | rw [if_neg (by first | assumption | omega | simp_all)]

end Go.Proofs.YtlblilbmpdejgaaDoor
/- Steps of the proofs of this seat: part F24. -/
set_option maxRecDepth 8000
set_option maxHeartbeats 4000000
namespace Go.Proofs.YtlblilbmpdejgaaDoor
open Go.Proofs Go.RowKit

theorem WH {a b : Int} (h1 : InR a) (h2 : InR b) : xh (a + b) = a + b ∨ (9223372036854775808 ≤ a + b ∧ xh (a + b) = a + b - 18446744073709551616) ∨ (a + b < -9223372036854775808 ∧ xh (a + b) = a + b + 18446744073709551616) := by
  unfold xh
  rw [IntKind.wrap_i64]
  omega
theorem rem_t {l : List Int} {k : Nat} {n : Int} (hk : k < l.length) (h : ¬ l.getD k 0 = n) : xE (l.take (k + 1)) n = xE (l.take k) n ++ [l.getD k 0] := by unfold xE; rw [List.take_getD hk, List.filter_append]; simp only [List.filter_cons, List.filter_nil]; rw [if_pos (by simpa using h)]
theorem rem_f {l : List Int} {k : Nat} {n : Int} (hk : k < l.length) (h : l.getD k 0 = n) : xE (l.take (k + 1)) n = xE (l.take k) n := by unfold xE; rw [List.take_getD (d := 0) hk, List.filter_append]; simp only [List.filter_cons, List.filter_nil]; rw [if_neg (by simpa using h)]; simp
theorem QO {l : List Int} {n : Int} : (xE l n).length ≤ l.length := List.length_filter_le _ _
theorem Kw {fl : Fld} {cs : List Cel} {c : Cel} {arg : Int} (h1 : InR c.n) (h2 : InR arg) : yV fl cs c 1 arg = (((!((decide (0 ≤ c.n) && decide (0 ≤ arg)) && decide (IntKind.i64.wrap (c.n + arg) < 0))) && (!((decide (c.n < 0) && decide (arg < 0)) && decide (0 ≤ IntKind.i64.wrap (c.n + arg))))) && (!(fl.floor && decide (IntKind.i64.wrap (c.n + arg) < 0)))) := by
  have hs := Zw (c.n + arg)
  have hw : xh (c.n + arg) = c.n + arg ∨ (9223372036854775808 ≤ c.n + arg ∧ xh (c.n + arg) = c.n + arg - 18446744073709551616) ∨ (c.n + arg < -9223372036854775808 ∧ xh (c.n + arg) = c.n + arg + 18446744073709551616) := WH h1 h2
  unfold yV
  rw [if_pos rfl]
  show _ = (((!((decide (0 ≤ c.n) && decide (0 ≤ arg)) && decide (xh (c.n + arg) < 0))) && (!((decide (c.n < 0) && decide (arg < 0)) && decide (0 ≤ xh (c.n + arg))))) && (!(fl.floor && decide (xh (c.n + arg) < 0))))
  generalize xh (c.n + arg) = s at *
  congr 1
  rw [Bool.eq_iff_iff]
  simp only [Bool.or_eq_true, Bool.and_eq_true, Bool.not_eq_true', decide_eq_true_eq, beq_iff_eq, Bool.and_eq_false_iff, decide_eq_false_iff_not, decide_eq_decide]
  omega
theorem Ku {fl : Fld} {cs : List Cel} {c : Cel} {arg : Int} : yV fl cs c 3 arg = (decide (((c.set.length : Nat) : Int) < 64) || decide (arg ∈ c.set)) := by
  unfold yV; rw [if_neg (by decide), if_pos rfl, Bool.or_comm]
theorem Kv {fl : Fld} {cs : List Cel} {c : Cel} {arg : Int} : yV fl cs c 5 arg = (decide (c.n = (Zk fl arg).frm) && (decide ((Zk fl arg).need < 0) || decide ((Zk fl arg).least ≤ (yj cs (Zk fl arg).need).n))) := by
  unfold yV; rw [if_neg (by decide), if_neg (by decide), if_pos rfl]
theorem may_o {fl : Fld} {cs : List Cel} {c : Cel} {op arg : Int} (h1 : ¬ op = 1) (h3 : ¬ op = 3) (h5 : ¬ op = 5) : yV fl cs c op arg = true := by
  unfold yV; rw [if_neg h1, if_neg h3, if_neg h5]
theorem Xo {G : Nat → Prop} {W w : World} {Rs : List HP} {t : Typ} {dt0 : Value} (hdt0 : RdS W G dt0 t.fields) (ot : t.Ok) (hS0 : Sep G W Rs w) : Ret Tryd.prog 64 [.agg (t.cells dt0).toArray] w (fun r w' => ∃ (v : Value), r = (v : Value) ∧ Sep G W ((RowE (α := Cel) own 42 v (List.replicate t.fields.length (⟨0, []⟩ : Cel))) :: Rs) w') := by
 have hdt0s : _ * 48 ≤ _ := hdt0.small
 refine zr (args := [.agg (t.cells dt0).toArray]) Tryd.func64 rfl rfl ?_
 refine zd (za kr (fun _ => (st (zT (v := .agg (t.cells dt0).toArray) rfl ?_))))
 intro w3 b2 f
 have c := hS0.new f
 refine st (ze (v := (Iz)) rfl (zf (zd (za kr (fun _ => (st (yA rfl (st (zg (v := dt0) Tryd.isAgg31 rfl (zh (c.blk (i := 0) rfl) rfl) (st (zJ (n := t.fields.length) Tryd.underlying31 rfl hdt0.sl (st (Zh (α := Cel) (T := 42) (bytes := 32) (n := t.fields.length) (x1 := (⟨0, []⟩ : Cel)) Tryd.underlying26 ⟨_, _, rfl, rfl, rfl, rfl, rfl, fun _ _ => ⟨_, rfl, RdS.nil _ _, ⟨by decide⟩⟩⟩ rfl rfl rfl (by show t.fields.length * 32 ≤ 140737488355328; omega) ?_)))))))))))))
 intro g b h he7 hl8 j
 have a : Sep G W ((RowE (α := Cel) own 42 (Iy b t.fields.length t.fields.length) (List.replicate t.fields.length (⟨0, []⟩ : Cel))) :: (Blk b2 (t.cells dt0).toArray 33) :: Rs) g := c.made h j
 have d := a.row (i := 0) rfl
 have hr12s : _ * 32 ≤ _ := d.2
 refine st (ze (v := (Iy b t.fields.length t.fields.length)) rfl (zf (zt (zO Tryd.results64 (show _ = ((Iy b t.fields.length t.fields.length) : Value) from rfl) ?_))))
 have e := a.s2_a
 refine ⟨(Iy b t.fields.length t.fields.length), rfl, e⟩

theorem Uy {G : Nat → Prop} {W w : World} {Rs : List HP} {vl : Value} {l : List Int} (hl : RdS W G vl l) {n : Int} (hn : InR n) (hS0 : Sep G W Rs w) (hfew : l.length ≤ 1000) : Ret Tryd.prog 76 [vl, .int .i64 (n)] w (fun r w' => ∃ (v : Value), r = (v : Value) ∧ Sep G W ((RowE (α := Int) own 3 v (xE l n)) :: Rs) w') := by
 have hls : _ * 8 ≤ _ := hl.small
 refine zr (args := [vl, Iv n]) Tryd.func76 rfl rfl ?_
 refine zd (za kr (fun _ => (st (ze (v := (Iz)) rfl (zf (zd (za kr (fun _ => (st (ze (v := (Iz)) rfl (zf (zd (zd (za kr (fun _ => (st (ze (v := Iv 0) rfl (zf (zw ?_)))))))))))))))))))
 have H : Sep G W ((RowE (α := Int) own 3 (Iz) ([] : List Int)) :: Rs) w := hS0.rowNil own 3
 refine yd (fun mq σ L => ∃ (k : Nat) (vo : Value) (ρ : Env), mq = l.length - k ∧ σ = yh ρ [(0, vl), (1, Iv n), (6, Iw k), (5, vo)] ∧ (k ≤ l.length) ∧ Sep G W ((RowE (α := Int) own 3 vo (xE (l.take k) n)) :: Rs) L) ⟨0, (Iz), _, rfl, zq ⟨rfl, rfl, rfl, rfl, trivial⟩, Nat.zero_le _, H⟩ ?_
 rintro m3 σ4 w2 ⟨k, vo, ρl1, rfl, rfl, hkk, e⟩
 have I := e.row (i := 0) rfl
 have hr6s : _ * 8 ≤ _ := I.2
 have hrl := QO (l := l.take k) (n := n)
 rw [List.length_take] at hrl
 refine zd (zd (za kr (fun _ => (st (zb (v := Iw k) rfl (st (zb (v := vl) rfl (st (zJ (n := l.length) Tryd.underlying40 rfl hl.sl (st (zL (k := .i64) (a := ((k : Nat) : Int)) (b := ((l.length : Nat) : Int)) rfl rfl (zf ?_))))))))))))
 cases m : decide (((k : Nat) : Int) < ((l.length : Nat) : Int))
 have m := fD m
 have J : k = l.length := by omega
 rw [J, List.take_length] at e
 refine zn rfl (yc (zU (zd (za kr (fun _ => (st (zb (v := vo) rfl (st (ze (v := vo) rfl (zf (zt (zO Tryd.results76 (show _ = (vo : Value) from rfl) ?_))))))))))))
 refine ⟨vo, rfl, e⟩
 have m := tD m
 refine zo rfl (zv (zd (zw (zd (za kr (fun _ => (st (zb (v := vl) rfl (st (zb (v := Iw k) rfl ?_))))))))))
 have K : k < l.length := bo
 refine st (zk (k := 1) (i := k) Tryd.underlying40 Tryd.sizeOf3 rfl hl.sl rfl K ?_)
 have f : k < l.length := bo
 obtain ⟨g, o⟩ := hl.int f
 rw [← zm 0 f] at g o
 have q := e.cells g (hl.foot (ne_of_lt f))
 refine st (zg (v := Iv ((l.getD k 0))) Tryd.isAgg3 rfl (q.get (j := 0) rfl) (st (zb (v := Iv n) rfl (st (yq (k := .i64) (a := (l.getD k 0)) (b := n) rfl rfl (zf ?_))))))
 cases d : !decide ((l.getD k 0) = n)
 have d := zC d
 refine zn rfl (zv (za kr (fun _ => (st (zb (v := Iw k) rfl ?_)))))
 have x : InR ((k + 1 : Nat) : Int) := bo
 refine st (zV (r := ((k + 1 : Nat) : Int)) (k := .i64) (a := ((k : Nat) : Int)) (b := 1) rfl rfl (by rw [show (((k : Nat) : Int) + 1 : Int) = ((k + 1 : Nat) : Int) from bo]; exact zM x) (st (ze (v := Iw (k + 1)) rfl (zf ?_))))
 have y : (xE (l.take (k + 1)) n) = (xE (l.take k) n) := (rem_f om d)
 rw [← y] at e
 exact ⟨_, by omega, k + 1, vo, _, rfl, zq ⟨rfl, rfl, rfl, rfl, trivial⟩, by omega, e⟩
 have d := zR d
 refine zo rfl (za kr (fun _ => (st (zb (v := vo) rfl (st (zb (v := vl) rfl (st (zb (v := Iw k) rfl ?_))))))))
 have z : k < l.length := bo
 refine st (zk (k := 1) (i := k) Tryd.underlying40 Tryd.sizeOf3 rfl hl.sl rfl z ?_)
 have s := e.cells g (hl.foot (ne_of_lt f))
 refine st (zg (v := Iv ((l.getD k 0))) Tryd.isAgg3 rfl (s.get (j := 0) rfl) (st (zD (k := 1) (parts' := [(0, Iv ((l.getD k 0)))]) (c := #[Iv ((l.getD k 0))]) Tryd.underlying40 Tryd.sizeOf3 Tryd.zeroValue3 dc rfl kr ?_)))
 intro w20 b19 A
 have p := e.new A
 have t := p.blk (i := 0) rfl
 have B := p.s2_b
 have C := B.emp1
 refine st (yp (src := own) (bytes := 8) (x1 := (l.getD k 0)) C Vv rfl rfl t (fun _ _ _ => (show _ from ⟨rfl, o⟩)) (by first | omega | (simp only [List.length_append, List.length_cons, List.length_nil, List.length_take, List.length_drop]; omega)) rfl ?_)
 intro u w22 h
 have D := h.row (i := 0) rfl
 have hr28s : _ * 8 ≤ _ := D.2
 refine st (ze (v := u) rfl (zf (za kr (fun _ => (st (zb (v := Iw k) rfl ?_))))))
 have E : InR ((k + 1 : Nat) : Int) := bo
 refine st (zV (r := ((k + 1 : Nat) : Int)) (k := .i64) (a := ((k : Nat) : Int)) (b := 1) rfl rfl (by rw [show (((k : Nat) : Int) + 1 : Int) = ((k + 1 : Nat) : Int) from bo]; exact zM E) (st (ze (v := Iw (k + 1)) rfl (zf ?_))))
 have F : (xE (l.take (k + 1)) n) = (xE (l.take k) n) ++ [(l.getD k 0)] := (rem_t om d)
 rw [← F] at h
 exact ⟨_, by omega, k + 1, u, _, rfl, zq ⟨rfl, rfl, rfl, rfl, trivial⟩, by omega, h⟩

theorem Kj {G : Nat → Prop} {W w : World} {Rs : List HP} {vl : Value} {l : List Int} (hl : RdS W G vl l) {n : Int} (hn : InR n) (hS0 : Sep G W Rs w) : Ret Tryd.prog 99 [vl, .int .i64 (n)] w (fun r w' => r = (.bool (decide (n ∈ l)) : Value) ∧ Sep G W Rs w') := by
 have hls : _ * 8 ≤ _ := hl.small
 refine zr (args := [vl, Iv n]) Tryd.func99 rfl rfl ?_
 refine zd (za kr (fun _ => (st (ze (v := .bool false) rfl (zf (zd (zd (za kr (fun _ => (st (ze (v := Iv 0) rfl (zf (zw (yd (fun mq σ s => ∃ (k : Nat) (ρ : Env), mq = l.length - k ∧ σ = yh ρ [(0, vl), (1, Iv n), (5, Iw k)] ∧ (k ≤ l.length) ∧ (∀ i, i < k → ¬ l.getD i 0 = n) ∧ Sep G W Rs s) ⟨0, _, rfl, zq ⟨rfl, rfl, rfl, trivial⟩, Nat.zero_le _, (fun i h => absurd h (Nat.not_lt_zero i)), hS0⟩ ?_))))))))))))))
 rintro m2 σ3 w1 ⟨k, ρl1, rfl, rfl, hkk, hm, d⟩
 refine zd (zd (za kr (fun _ => (st (zb (v := Iw k) rfl (st (zb (v := vl) rfl (st (zJ (n := l.length) Tryd.underlying40 rfl hl.sl (st (zL (k := .i64) (a := ((k : Nat) : Int)) (b := ((l.length : Nat) : Int)) rfl rfl (zf ?_))))))))))))
 cases e : decide (((k : Nat) : Int) < ((l.length : Nat) : Int))
 have e := fD e
 refine zn rfl (yc (zU (zd (za kr (fun _ => (st (ze (v := .bool false) rfl (zf (zt (zO Tryd.results99 (show _ = (.bool false : Value) from rfl) ?_))))))))))
 refine ⟨?_, d⟩
 rw [decide_eq_false (Wk (fun i hi => hm i (by omega)))]
 have e := tD e
 refine zo rfl (zv (zd (zw (zd (za kr (fun _ => (st (zb (v := vl) rfl (st (zb (v := Iw k) rfl ?_))))))))))
 have q : k < l.length := bo
 refine st (zk (k := 1) (i := k) Tryd.underlying40 Tryd.sizeOf3 rfl hl.sl rfl q ?_)
 have f : k < l.length := bo
 obtain ⟨g, m⟩ := hl.int f
 rw [← zm 0 f] at g m
 have o := d.cells g (hl.foot (ne_of_lt f))
 refine st (zg (v := Iv ((l.getD k 0))) Tryd.isAgg3 rfl (o.get (j := 0) rfl) (st (zb (v := Iv n) rfl (st (zP (k := .i64) (a := (l.getD k 0)) (b := n) rfl rfl (zf ?_))))))
 cases c : decide ((l.getD k 0) = n)
 have c := fD c
 refine zn rfl (zv (za kr (fun _ => (st (zb (v := Iw k) rfl ?_)))))
 have p : InR ((k + 1 : Nat) : Int) := bo
 refine st (zV (r := ((k + 1 : Nat) : Int)) (k := .i64) (a := ((k : Nat) : Int)) (b := 1) rfl rfl (by rw [show (((k : Nat) : Int) + 1 : Int) = ((k + 1 : Nat) : Int) from bo]; exact zM p) (st (ze (v := Iw (k + 1)) rfl (zf ?_))))
 exact ⟨_, by omega, k + 1, _, rfl, zq ⟨rfl, rfl, rfl, trivial⟩, by omega, (yW hm c), d⟩
 have c := tD c
 refine zo rfl (zd (za kr (fun _ => (st (ze (v := .bool true) rfl (zf (zt (zO Tryd.results99 (show _ = (.bool true : Value) from rfl) ?_))))))))
 refine ⟨?_, d⟩
 rw [decide_eq_true (QI (by omega) c)]

theorem WC {G : Nat → Prop} {W w : World} {Rs : List HP} {t : Typ} {dt0 : Value} (hdt0 : RdS W G dt0 t.fields) (ot : t.Ok) {vc : Value} {c : List Cel} (hc : RdS W G vc c) {fi : Int} (hfi : InR fi) {op : Int} (hop : InR op) {arg : Int} (harg : InR arg) (hS0 : Sep G W Rs w) (hask : Yy t c fi op arg) : Ret Tryd.prog 91 [.agg (t.cells dt0).toArray, vc, .int .i64 (fi), .int .i64 (op), .int .i64 (arg)] w (fun r w' => r = (.int .i64 ((yU t c fi op arg)) : Value) ∧ Sep G W Rs w') := by
 have hdt0s : _ * 48 ≤ _ := hdt0.small
 have hcs : _ * 32 ≤ _ := hc.small
 have ha0 := hask.1
 have ha1 := hask.2.1
 have ha2 := hask.2.2.1
 refine zr (args := [.agg (t.cells dt0).toArray, vc, Iv fi, Iv op, Iv arg]) Tryd.func91 rfl rfl ?_
 refine zd (za kr (fun _ => (st (zT (v := .agg (t.cells dt0).toArray) rfl ?_))))
 intro w3 b2 cV
 have bw := hS0.new cV
 refine st (ze (v := Iv 0) rfl (zf (zd (za kr (fun _ => (st (yA rfl (st (zg (v := dt0) Tryd.isAgg31 rfl (zh (bw.blk (i := 0) rfl) rfl) (st (zb (v := Iv fi) rfl ?_)))))))))))
 have hi5 : fi.toNat < t.fields.length := bo
 refine st (zz (k := 4) (i := fi) Tryd.underlying31 Tryd.sizeOf79 rfl hdt0.sl rfl ⟨by omega, by omega⟩ ?_)
 have bx : fi.toNat < t.fields.length := bo
 obtain ⟨bz, o, bG⟩ := hdt0.fld bx
 rw [← zm default bx] at bz o bG
 have hsm8 : ((t.fields.getD fi.toNat default).moves).length * 32 ≤ 140737488355328 := o.small
 have cK := bw.cells bz (hdt0.foot (ne_of_lt bx))
 refine st (zl (k := 4) Tryd.isAgg79 Tryd.sizeOf79 rfl rfl cK (st (zB Tryd.zeroValue79 ?_)))
 intro w12 aa cL
 have bA := bw.new cL
 refine stn (zy (v := .agg ((t.fields.getD fi.toNat default).cells (zi W (sb dt0) (so dt0 + fi.toNat * 4 + 3))).toArray) (c' := ((t.fields.getD fi.toNat default).cells (zi W (sb dt0) (so dt0 + fi.toNat * 4 + 3))).toArray) Tryd.sizeOf79 rfl rfl (bA.blk (i := 0) rfl) (ya ⟨rfl, rfl, rfl, o.sl.one, trivial⟩) (Nat.le_of_ble_eq_true rfl) rfl ?_)
 intro w14 cM
 have bB := bA.pt0 cM
 refine zf (zd (za kr (fun _ => (st (zb (v := vc) rfl (st (zb (v := Iv fi) rfl ?_)))))))
 have hi17 : fi.toNat < c.length := bo
 refine st (zz (k := 2) (i := fi) Tryd.underlying26 Tryd.sizeOf42 rfl hc.sl rfl ⟨by omega, by omega⟩ ?_)
 have ak : fi.toNat < c.length := bo
 obtain ⟨am, p, T⟩ := hc.cel ak
 rw [← zm default ak] at am p T
 have hsm20 : ((c.getD fi.toNat default).set).length * 8 ≤ 140737488355328 := p.small
 have bH := bB.cells am (hc.foot (ne_of_lt ak))
 refine st (zl (k := 2) Tryd.isAgg42 Tryd.sizeOf42 rfl rfl bH (st (zB Tryd.zeroValue42 ?_)))
 intro w24 L cN
 have bC := bB.new cN
 refine stn (zy (v := .agg ((c.getD fi.toNat default).cells (zi W (sb vc) (so vc + fi.toNat * 2 + 1))).toArray) (c' := ((c.getD fi.toNat default).cells (zi W (sb vc) (so vc + fi.toNat * 2 + 1))).toArray) Tryd.sizeOf42 rfl rfl (bC.blk (i := 0) rfl) (ya ⟨rfl, p.sl.one, trivial⟩) (Nat.le_of_ble_eq_true rfl) rfl ?_)
 intro w26 cO
 have g := bC.pt0 cO
 refine zf (zd (za kr (fun _ => (st (ze (v := .bool true) rfl (zf (zd (zd (za kr (fun _ => (st (zb (v := Iv op) rfl (zf (zw (zd (za kr (fun _ => (st (zP (k := .i64) (a := op) (b := 1) rfl rfl (st (ze (v := .bool (decide (op = 1))) rfl (zf ?_))))))))))))))))))))))
 cases B : decide (op = 1)
 have hc29r := B
 have B := fD B
 refine zn rfl (zd (za kr (fun _ => (st (zP (k := .i64) (a := op) (b := 3) rfl rfl (st (ze (v := .bool (decide (op = 3))) rfl (zf ?_))))))))
 cases C : decide (op = 3)
 have hc30r := C
 have C := fD C
 refine zn rfl (zd (za kr (fun _ => (st (zP (k := .i64) (a := op) (b := 5) rfl rfl (st (ze (v := .bool (decide (op = 5))) rfl (zf ?_))))))))
 cases z : decide (op = 5)
 have hc31r := z
 have z := fD z
 refine zn rfl (zv (zd (zd (za kr (fun _ => (st (zb (v := .bool true) rfl (zf (zo rfl (zd (za kr (fun _ => (st (ze (v := Iv 0) rfl (zf (zt (zO Tryd.results91 (show _ = (Iv 0 : Value) from rfl) ?_)))))))))))))))))
 have cP := g.s3_
 refine ⟨?_, cP⟩
 congr 1
 have q : yV (yK t fi) c (yj c fi) op arg = true := may_o om om om
 unfold yU
 rw [q]; rfl
 have z := tD z
 have cJ := hask.2.2.2.2 z
 have ha51 : arg < (t.fields.getD fi.toNat default).moves.length := cJ.2.1
 have ha52 : ((t.fields.getD fi.toNat default).moves.getD arg.toNat default).need < 0 ∨ ((t.fields.getD fi.toNat default).moves.getD arg.toNat default).need < c.length := cJ.2.2
 refine zo rfl (zd (za kr (fun _ => (st (yz rfl (st (zg (v := (zi W (sb dt0) (so dt0 + fi.toNat * 4 + 3))) Tryd.isAgg77 rfl (zh (g.blk (i := 1) rfl) rfl) (st (zb (v := Iv arg) rfl ?_)))))))))
 have hi33 : arg.toNat < ((t.fields.getD fi.toNat default).moves).length := bo
 refine st (zz (k := 4) (i := arg) Tryd.underlying77 Tryd.sizeOf115 rfl o.sl rfl ⟨by omega, by omega⟩ ?_)
 have al : arg.toNat < ((t.fields.getD fi.toNat default).moves).length := bo
 obtain ⟨an, bD⟩ := o.mv al
 rw [← zm default al] at an bD
 have bI := g.cells an (o.foot (ne_of_lt al))
 refine st (zl (k := 4) Tryd.isAgg115 Tryd.sizeOf115 rfl rfl bI (st (zB Tryd.zeroValue115 ?_)))
 intro w39 D cQ
 have bE := g.new cQ
 refine stn (zy (v := .agg ((((t.fields.getD fi.toNat default).moves).getD arg.toNat default).cells).toArray) (c' := ((((t.fields.getD fi.toNat default).moves).getD arg.toNat default).cells).toArray) Tryd.sizeOf115 rfl rfl (bE.blk (i := 0) rfl) (ya ⟨rfl, rfl, rfl, rfl, trivial⟩) (Nat.le_of_ble_eq_true rfl) rfl ?_)
 intro w41 cR
 have cS := bE.pt0 cR
 refine zf ?_
 refine WD4 (WF [fun vals wq => Sep G W ((Blk D ((((t.fields.getD fi.toNat default).moves).getD arg.toNat default).cells).toArray 115) :: (Blk L ((c.getD fi.toNat default).cells (zi W (sb vc) (so vc + fi.toNat * 2 + 1))).toArray 42) :: (Blk aa ((t.fields.getD fi.toNat default).cells (zi W (sb dt0) (so dt0 + fi.toNat * 4 + 3))).toArray 79) :: (Blk b2 (t.cells dt0).toArray 33) :: Rs) wq]) (AF [Vl 0 (Ix L 0), Vl 1 (Iv ((c.getD fi.toNat default).n)), Vl 2 (Ix D 0), Vl 3 (Iv ((((t.fields.getD fi.toNat default).moves).getD arg.toNat default).frm)), Vl 4 (.bool (decide (((c.getD fi.toNat default).n) = ((((t.fields.getD fi.toNat default).moves).getD arg.toNat default).frm)))), Vl 5 (.bool (decide (((c.getD fi.toNat default).n) = ((((t.fields.getD fi.toNat default).moves).getD arg.toNat default).frm)))), Vl 6 (if (decide (((c.getD fi.toNat default).n) = ((((t.fields.getD fi.toNat default).moves).getD arg.toNat default).frm))) = true then Ix D 2 else undef), Vl 7 (if (decide (((c.getD fi.toNat default).n) = ((((t.fields.getD fi.toNat default).moves).getD arg.toNat default).frm))) = true then Iv ((((t.fields.getD fi.toNat default).moves).getD arg.toNat default).need) else undef), Vl 8 (if (decide (((c.getD fi.toNat default).n) = ((((t.fields.getD fi.toNat default).moves).getD arg.toNat default).frm))) = true then .bool (decide (((((t.fields.getD fi.toNat default).moves).getD arg.toNat default).need) < 0)) else undef), Vl 9 (if (decide (((c.getD fi.toNat default).n) = ((((t.fields.getD fi.toNat default).moves).getD arg.toNat default).frm))) = true then .bool (decide (((((t.fields.getD fi.toNat default).moves).getD arg.toNat default).need) < 0)) else undef), Vl 10 (if ((decide (((c.getD fi.toNat default).n) = ((((t.fields.getD fi.toNat default).moves).getD arg.toNat default).frm))) = true) ∧ (decide (((((t.fields.getD fi.toNat default).moves).getD arg.toNat default).need) < 0)) = false then vc else undef), Vl 11 (if ((decide (((c.getD fi.toNat default).n) = ((((t.fields.getD fi.toNat default).moves).getD arg.toNat default).frm))) = true) ∧ (decide (((((t.fields.getD fi.toNat default).moves).getD arg.toNat default).need) < 0)) = false then Ix D 2 else undef), Vl 12 (if ((decide (((c.getD fi.toNat default).n) = ((((t.fields.getD fi.toNat default).moves).getD arg.toNat default).frm))) = true) ∧ (decide (((((t.fields.getD fi.toNat default).moves).getD arg.toNat default).need) < 0)) = false then Iv ((((t.fields.getD fi.toNat default).moves).getD arg.toNat default).need) else undef), Vl 13 (if ((decide (((c.getD fi.toNat default).n) = ((((t.fields.getD fi.toNat default).moves).getD arg.toNat default).frm))) = true) ∧ (decide (((((t.fields.getD fi.toNat default).moves).getD arg.toNat default).need) < 0)) = false then Ix (sb vc) (so vc + (((((t.fields.getD fi.toNat default).moves).getD arg.toNat default).need).toNat) * 2) else undef), Vl 14 (if ((decide (((c.getD fi.toNat default).n) = ((((t.fields.getD fi.toNat default).moves).getD arg.toNat default).frm))) = true) ∧ (decide (((((t.fields.getD fi.toNat default).moves).getD arg.toNat default).need) < 0)) = false then Ix (sb vc) (so vc + (((((t.fields.getD fi.toNat default).moves).getD arg.toNat default).need).toNat) * 2) else undef), Vl 15 (if ((decide (((c.getD fi.toNat default).n) = ((((t.fields.getD fi.toNat default).moves).getD arg.toNat default).frm))) = true) ∧ (decide (((((t.fields.getD fi.toNat default).moves).getD arg.toNat default).need) < 0)) = false then Iv ((c.getD (((((t.fields.getD fi.toNat default).moves).getD arg.toNat default).need).toNat) default).n) else undef), Vl 16 (if ((decide (((c.getD fi.toNat default).n) = ((((t.fields.getD fi.toNat default).moves).getD arg.toNat default).frm))) = true) ∧ (decide (((((t.fields.getD fi.toNat default).moves).getD arg.toNat default).need) < 0)) = false then Ix D 3 else undef), Vl 17 (if ((decide (((c.getD fi.toNat default).n) = ((((t.fields.getD fi.toNat default).moves).getD arg.toNat default).frm))) = true) ∧ (decide (((((t.fields.getD fi.toNat default).moves).getD arg.toNat default).need) < 0)) = false then Iv ((((t.fields.getD fi.toNat default).moves).getD arg.toNat default).least) else undef), Vl 18 (if ((decide (((c.getD fi.toNat default).n) = ((((t.fields.getD fi.toNat default).moves).getD arg.toNat default).frm))) = true) ∧ (decide (((((t.fields.getD fi.toNat default).moves).getD arg.toNat default).need) < 0)) = false then .bool (decide (((((t.fields.getD fi.toNat default).moves).getD arg.toNat default).least) ≤ ((c.getD (((((t.fields.getD fi.toNat default).moves).getD arg.toNat default).need).toNat) default).n))) else undef), Vl 19 (if (decide (((c.getD fi.toNat default).n) = ((((t.fields.getD fi.toNat default).moves).getD arg.toNat default).frm))) = true then .bool ((decide (((((t.fields.getD fi.toNat default).moves).getD arg.toNat default).need) < 0)) || (decide (((((t.fields.getD fi.toNat default).moves).getD arg.toNat default).least) ≤ ((c.getD (((((t.fields.getD fi.toNat default).moves).getD arg.toNat default).need).toNat) default).n)))) else undef), Vl 20 (.bool ((decide (((c.getD fi.toNat default).n) = ((((t.fields.getD fi.toNat default).moves).getD arg.toNat default).frm))) && ((decide (((((t.fields.getD fi.toNat default).moves).getD arg.toNat default).need) < 0)) || (decide (((((t.fields.getD fi.toNat default).moves).getD arg.toNat default).least) ≤ ((c.getD (((((t.fields.getD fi.toNat default).moves).getD arg.toNat default).need).toNat) default).n)))))), Vl 21 (.bool ((decide (((c.getD fi.toNat default).n) = ((((t.fields.getD fi.toNat default).moves).getD arg.toNat default).frm))) && ((decide (((((t.fields.getD fi.toNat default).moves).getD arg.toNat default).need) < 0)) || (decide (((((t.fields.getD fi.toNat default).moves).getD arg.toNat default).least) ≤ ((c.getD (((((t.fields.getD fi.toNat default).moves).getD arg.toNat default).need).toNat) default).n))))))]) [[], [0], [], [2], (rg 4), (rg 5), (rg 6), (rg 7), (rg 8), (rg 9), (rg 10), (rg 10), [0, 1, 2, 3, 4, 5, 6, 7, 8, 9, 11], (rg 13), (rg 14), (rg 15), (rg 10), [0, 1, 2, 3, 4, 5, 6, 7, 8, 9, 16], (rg 18), (rg 19), (rg 20), (rg 21)] [] [(0, 0), (0, 0), (0, 0), (0, 0), (0, 0), (0, 0), (0, 0), (0, 0), (0, 0), (0, 0), (0, 0), (0, 0), (0, 0), (0, 0), (0, 0), (0, 0), (0, 0), (0, 0), (0, 0), (0, 0), (0, 0), (0, 0)] cS ⟨?_, ?_, ?_, ?_, ?_, ?_, ?_, ?_, ?_, ?_, ?_, ?_, ?_, ?_, ?_, ?_, ?_, ?_, ?_, ?_, ?_, ?_, trivial⟩ ?_
 exact fun _ _ _ _ _ _ _ => obl rfl (yL rfl dR)
 exact ob1 0 fun _ _ (bJ : Sep _ _ _ _) bK => obl rfl (zg (v := Iv ((c.getD fi.toNat default).n)) Tryd.isAgg3 (bK 0 dc) (zh (bJ.blk (i := 1) rfl) rfl) dR)
 exact fun _ _ _ _ _ _ _ => obl rfl (XV rfl dR)
 exact ob1 0 fun _ _ (bL : Sep _ _ _ _) bM => obl rfl (zg (v := Iv ((((t.fields.getD fi.toNat default).moves).getD arg.toNat default).frm)) Tryd.isAgg3 (bM 2 dc) (zh (bL.blk (i := 0) rfl) rfl) dR)
 exact ob1 0 fun _ _ _ ao => obl rfl (zP (k := .i64) (a := (c.getD fi.toNat default).n) (b := (((t.fields.getD fi.toNat default).moves).getD arg.toNat default).frm) (ao 1 dc) (ao 3 dc) dR)
 exact fun _ _ _ _ _ _ bN => obl rfl (zb (v := .bool (decide (((c.getD fi.toNat default).n) = ((((t.fields.getD fi.toNat default).moves).getD arg.toNat default).frm)))) (bN 4 dc) dR)
 refine fun _ _ _ _ _ _ bO => (zN rfl rfl (bO 5 dc) (fun M => ?_) (fun M => fun d e _ => ⟨trivial, e.trans (if_neg M).symm⟩))
 have ap := M
 have ap := tD ap
 exact Zl rfl (fun d e _ => ⟨rfl, e.trans (if_pos M).symm⟩)
 refine ob1 0 fun _ _ (bP : Sep _ _ _ _) aq => (zN rfl rfl (aq 5 dc) (fun E => ?_) (fun E => fun d e _ => ⟨trivial, e.trans (if_neg E).symm⟩))
 have ar := E
 have ar := tD ar
 exact zg (v := Iv ((((t.fields.getD fi.toNat default).moves).getD arg.toNat default).need)) Tryd.isAgg3 (show _ = (Ix D 2 : Value) from (Eq.trans (aq 6 dc) (if_pos E))) (zh (bP.blk (i := 0) rfl) rfl) (fun d e _ => ⟨rfl, e.trans (if_pos E).symm⟩)
 refine ob1 0 fun _ _ _ au => (zN rfl rfl (au 5 dc) (fun F => ?_) (fun F => fun d e _ => ⟨trivial, e.trans (if_neg F).symm⟩))
 have av := F
 have av := tD av
 exact zL (k := .i64) (a := (((t.fields.getD fi.toNat default).moves).getD arg.toNat default).need) (b := 0) (show _ = (Iv ((((t.fields.getD fi.toNat default).moves).getD arg.toNat default).need) : Value) from (Eq.trans (au 7 dc) (if_pos F))) rfl (fun d e _ => ⟨rfl, e.trans (if_pos F).symm⟩)
 refine fun _ _ _ _ _ _ aw => (zN rfl rfl (aw 5 dc) (fun H => ?_) (fun H => fun d e _ => ⟨trivial, e.trans (if_neg H).symm⟩))
 have ax := H
 have ax := tD ax
 exact zb (v := .bool (decide (((((t.fields.getD fi.toNat default).moves).getD arg.toNat default).need) < 0))) (show _ = (.bool (decide (((((t.fields.getD fi.toNat default).moves).getD arg.toNat default).need) < 0)) : Value) from (Eq.trans (aw 8 dc) (if_pos H))) (fun d e _ => ⟨rfl, e.trans (if_pos H).symm⟩)
 refine fun _ _ _ _ _ _ bQ => (xg rfl rfl (bQ 9 dc) (fun I => ?_) (fun I => fun d e _ => ⟨trivial, e.trans (if_neg I).symm⟩))
 have ay := I.1
 have ay := tD ay
 have az := I.2
 have az := fD az
 exact zb (v := vc) rfl (fun d e _ => ⟨rfl, e.trans (if_pos I).symm⟩)
 refine fun _ _ _ _ _ _ bR => (xg rfl rfl (bR 9 dc) (fun J => ?_) (fun J => fun d e _ => ⟨trivial, e.trans (if_neg J).symm⟩))
 have aA := J.1
 have aA := tD aA
 have aB := J.2
 have aB := fD aB
 exact Zl rfl (fun d e _ => ⟨rfl, e.trans (if_pos J).symm⟩)
 refine ob1 0 fun _ _ (bS : Sep _ _ _ _) aC => (xg rfl rfl (aC 9 dc) (fun s => ?_) (fun s => fun d e _ => ⟨trivial, e.trans (if_neg s).symm⟩))
 have aD := s.1
 have aD := tD aD
 have aE := s.2
 have aE := fD aE
 exact zg (v := Iv ((((t.fields.getD fi.toNat default).moves).getD arg.toNat default).need)) Tryd.isAgg3 (show _ = (Ix D 2 : Value) from (Eq.trans (aC 11 dc) (if_pos ⟨s.1, s.2⟩))) (zh (bS.blk (i := 0) rfl) rfl) (fun d e _ => ⟨rfl, e.trans (if_pos s).symm⟩)
 refine ob1 0 fun _ _ _ ab => (xg rfl rfl (ab 9 dc) (fun h => ?_) (fun h => fun d e _ => ⟨trivial, e.trans (if_neg h).symm⟩))
 have aF := h.1
 have aF := tD aF
 have aG := h.2
 have aG := fD aG
 have hi393 : ((((t.fields.getD fi.toNat default).moves).getD arg.toNat default).need).toNat < c.length := bo
 exact zz (k := 2) (i := (((t.fields.getD fi.toNat default).moves).getD arg.toNat default).need) Tryd.underlying26 Tryd.sizeOf42 (show _ = (vc : Value) from (Eq.trans (ab 10 dc) (if_pos ⟨h.1, h.2⟩))) hc.sl (show _ = (Iv ((((t.fields.getD fi.toNat default).moves).getD arg.toNat default).need) : Value) from (Eq.trans (ab 12 dc) (if_pos ⟨h.1, h.2⟩))) ⟨by omega, by omega⟩ (fun d e _ => ⟨rfl, e.trans (if_pos h).symm⟩)
 refine fun _ _ _ _ _ _ aH => (xg rfl rfl (aH 9 dc) (fun u => ?_) (fun u => fun d e _ => ⟨trivial, e.trans (if_neg u).symm⟩))
 have aI := u.1
 have aI := tD aI
 have aJ := u.2
 have aJ := fD aJ
 exact yL (show _ = (Ix (sb vc) (so vc + (((((t.fields.getD fi.toNat default).moves).getD arg.toNat default).need).toNat) * 2) : Value) from (Eq.trans (aH 13 dc) (if_pos ⟨u.1, u.2⟩))) (fun d e _ => ⟨rfl, e.trans (if_pos u).symm⟩)
 refine ob1 0 fun _ _ (bT : Sep _ _ _ _) aK => (xg rfl rfl (aK 9 dc) (fun x => ?_) (fun x => fun d e _ => ⟨trivial, e.trans (if_neg x).symm⟩))
 have aL := x.1
 have aL := tD aL
 have aM := x.2
 have aM := fD aM
 have ac : ((((t.fields.getD fi.toNat default).moves).getD arg.toNat default).need).toNat < c.length := bo
 obtain ⟨aj, U, bv⟩ := hc.cel ac
 rw [← zm default ac] at aj U bv
 have hsm419 : ((c.getD (((((t.fields.getD fi.toNat default).moves).getD arg.toNat default).need).toNat) default).set).length * 8 ≤ 140737488355328 := U.small
 have bF := bT.cells aj (hc.foot (ne_of_lt ac))
 exact zg (v := Iv ((c.getD (((((t.fields.getD fi.toNat default).moves).getD arg.toNat default).need).toNat) default).n)) Tryd.isAgg3 (show _ = (Ix (sb vc) (so vc + (((((t.fields.getD fi.toNat default).moves).getD arg.toNat default).need).toNat) * 2) : Value) from (Eq.trans (aK 14 dc) (if_pos ⟨x.1, x.2⟩))) (bF.get (j := 0) rfl) (fun d e _ => ⟨rfl, e.trans (if_pos x).symm⟩)
 refine fun _ _ _ _ _ _ bU => (xg rfl rfl (bU 9 dc) (fun K => ?_) (fun K => fun d e _ => ⟨trivial, e.trans (if_neg K).symm⟩))
 have aN := K.1
 have aN := tD aN
 have aO := K.2
 have aO := fD aO
 exact Wl rfl (fun d e _ => ⟨rfl, e.trans (if_pos K).symm⟩)
 refine ob1 0 fun _ _ (bV : Sep _ _ _ _) aP => (xg rfl rfl (aP 9 dc) (fun y => ?_) (fun y => fun d e _ => ⟨trivial, e.trans (if_neg y).symm⟩))
 have aQ := y.1
 have aQ := tD aQ
 have aR := y.2
 have aR := fD aR
 exact zg (v := Iv ((((t.fields.getD fi.toNat default).moves).getD arg.toNat default).least)) Tryd.isAgg3 (show _ = (Ix D 3 : Value) from (Eq.trans (aP 16 dc) (if_pos ⟨y.1, y.2⟩))) (zh (bV.blk (i := 0) rfl) rfl) (fun d e _ => ⟨rfl, e.trans (if_pos y).symm⟩)
 refine ob1 0 fun _ _ _ ad => (xg rfl rfl (ad 9 dc) (fun m => ?_) (fun m => fun d e _ => ⟨trivial, e.trans (if_neg m).symm⟩))
 have aS := m.1
 have aS := tD aS
 have aT := m.2
 have aT := fD aT
 exact yY (k := .i64) (a := (c.getD (((((t.fields.getD fi.toNat default).moves).getD arg.toNat default).need).toNat) default).n) (b := (((t.fields.getD fi.toNat default).moves).getD arg.toNat default).least) (show _ = (Iv ((c.getD (((((t.fields.getD fi.toNat default).moves).getD arg.toNat default).need).toNat) default).n) : Value) from (Eq.trans (ad 15 dc) (if_pos ⟨m.1, m.2⟩))) (show _ = (Iv ((((t.fields.getD fi.toNat default).moves).getD arg.toNat default).least) : Value) from (Eq.trans (ad 17 dc) (if_pos ⟨m.1, m.2⟩))) (fun d e _ => ⟨rfl, e.trans (if_pos m).symm⟩)
 refine fun _ _ _ _ _ _ ae => (zN rfl rfl (ae 5 dc) (fun A => ?_) (fun A => fun d e _ => ⟨trivial, e.trans (if_neg A).symm⟩))
 have aU := A
 have aU := tD aU
 exact zG (b := decide (((((t.fields.getD fi.toNat default).moves).getD arg.toNat default).need) < 0)) (b' := decide (((((t.fields.getD fi.toNat default).moves).getD arg.toNat default).least) ≤ ((c.getD (((((t.fields.getD fi.toNat default).moves).getD arg.toNat default).need).toNat) default).n))) (show _ = (.bool (decide (((((t.fields.getD fi.toNat default).moves).getD arg.toNat default).need) < 0)) : Value) from (Eq.trans (ae 9 dc) (if_pos A))) (fun hbp => (show _ = (.bool (decide (((((t.fields.getD fi.toNat default).moves).getD arg.toNat default).least) ≤ ((c.getD (((((t.fields.getD fi.toNat default).moves).getD arg.toNat default).need).toNat) default).n))) : Value) from (Eq.trans (ae 18 dc) (if_pos ⟨A, hbp⟩)))) (fun d e _ => ⟨rfl, e.trans (if_pos A).symm⟩)
 exact fun _ _ _ _ _ _ aV => obl rfl (zx (b := decide (((c.getD fi.toNat default).n) = ((((t.fields.getD fi.toNat default).moves).getD arg.toNat default).frm))) (b' := (decide (((((t.fields.getD fi.toNat default).moves).getD arg.toNat default).need) < 0)) || (decide (((((t.fields.getD fi.toNat default).moves).getD arg.toNat default).least) ≤ ((c.getD (((((t.fields.getD fi.toNat default).moves).getD arg.toNat default).need).toNat) default).n)))) (aV 5 dc) (fun hbp => (show _ = (.bool ((decide (((((t.fields.getD fi.toNat default).moves).getD arg.toNat default).need) < 0)) || (decide (((((t.fields.getD fi.toNat default).moves).getD arg.toNat default).least) ≤ ((c.getD (((((t.fields.getD fi.toNat default).moves).getD arg.toNat default).need).toNat) default).n)))) : Value) from (Eq.trans (aV 19 dc) (if_pos hbp)))) dR)
 exact fun _ _ _ _ _ _ bW => obl rfl (ze (v := .bool ((decide (((c.getD fi.toNat default).n) = ((((t.fields.getD fi.toNat default).moves).getD arg.toNat default).frm))) && ((decide (((((t.fields.getD fi.toNat default).moves).getD arg.toNat default).need) < 0)) || (decide (((((t.fields.getD fi.toNat default).moves).getD arg.toNat default).least) ≤ ((c.getD (((((t.fields.getD fi.toNat default).moves).getD arg.toNat default).need).toNat) default).n)))))) (bW 20 dc) dR)
 intro vals w482 bX bY
 have aW : Sep _ _ _ _ := bX
 have cU := bY 21 dc
 refine yf (kv := [(0, .agg (t.cells dt0).toArray), (1, vc), (2, Iv fi), (3, Iv op), (4, Iv arg), (5, Ix b2 0), (10, Iv 0), (16, Ix b2 0), (17, dt0), (18, Iv fi), (19, Ix (sb dt0) (so dt0 + fi.toNat * 4)), (20, .agg ((t.fields.getD fi.toNat default).cells (zi W (sb dt0) (so dt0 + fi.toNat * 4 + 3))).toArray), (11, Ix aa 0), (21, vc), (22, Iv fi), (23, Ix (sb vc) (so vc + fi.toNat * 2)), (24, .agg ((c.getD fi.toNat default).cells (zi W (sb vc) (so vc + fi.toNat * 2 + 1))).toArray), (12, Ix L 0), (13, .bool ((decide (((c.getD fi.toNat default).n) = ((((t.fields.getD fi.toNat default).moves).getD arg.toNat default).frm))) && ((decide (((((t.fields.getD fi.toNat default).moves).getD arg.toNat default).need) < 0)) || (decide (((((t.fields.getD fi.toNat default).moves).getD arg.toNat default).least) ≤ ((c.getD (((((t.fields.getD fi.toNat default).moves).getD arg.toNat default).need).toNat) default).n)))))), (25, Iv op), (27, .bool false), (26, .bool false), (68, .bool false), (67, .bool false), (80, .bool true), (79, .bool true), (81, Ix aa 3), (82, (zi W (sb dt0) (so dt0 + fi.toNat * 4 + 3))), (83, Iv arg), (84, Ix (sb (zi W (sb dt0) (so dt0 + fi.toNat * 4 + 3))) (so (zi W (sb dt0) (so dt0 + fi.toNat * 4 + 3)) + arg.toNat * 4)), (85, .agg ((((t.fields.getD fi.toNat default).moves).getD arg.toNat default).cells).toArray), (15, Ix D 0)]) ⟨rfl, rfl, rfl, rfl, rfl, rfl, rfl, rfl, rfl, rfl, rfl, rfl, rfl, rfl, rfl, rfl, rfl, rfl, (by exact cU), rfl, rfl, rfl, rfl, rfl, rfl, rfl, rfl, rfl, rfl, rfl, rfl, rfl, trivial⟩ (fun ρw482 => ?_)
 refine zf (zd (zd (za kr (fun _ => (st (zb (v := .bool ((decide (((c.getD fi.toNat default).n) = ((((t.fields.getD fi.toNat default).moves).getD arg.toNat default).frm))) && ((decide (((((t.fields.getD fi.toNat default).moves).getD arg.toNat default).need) < 0)) || (decide (((((t.fields.getD fi.toNat default).moves).getD arg.toNat default).least) ≤ ((c.getD (((((t.fields.getD fi.toNat default).moves).getD arg.toNat default).need).toNat) default).n)))))) rfl (zf ?_)))))))
 cases N : (decide (((c.getD fi.toNat default).n) = ((((t.fields.getD fi.toNat default).moves).getD arg.toNat default).frm))) && ((decide (((((t.fields.getD fi.toNat default).moves).getD arg.toNat default).need) < 0)) || (decide (((((t.fields.getD fi.toNat default).moves).getD arg.toNat default).least) ≤ ((c.getD (((((t.fields.getD fi.toNat default).moves).getD arg.toNat default).need).toNat) default).n))))
 have X := N
 try simp only [zj] at N
 refine zn rfl (zv (zd (za kr (fun _ => (st (ze (v := Iv 10) rfl (zf (zt (zO Tryd.results91 (show _ = (Iv 10 : Value) from rfl) ?_)))))))))
 have bZ := aW.s4_
 refine ⟨?_, bZ⟩
 congr 1
 have q : yV (yK t fi) c (yj c fi) op arg = false := by rw [z]; exact (Kv).trans X
 unfold yU
 rw [q]; rfl
 have X := N
 try simp only [zj] at N
 refine zo rfl (zd (za kr (fun _ => (st (ze (v := Iv 0) rfl (zf (zt (zO Tryd.results91 (show _ = (Iv 0 : Value) from rfl) ?_))))))))
 have ca := aW.s4_
 refine ⟨?_, ca⟩
 congr 1
 have q : yV (yK t fi) c (yj c fi) op arg = true := by rw [z]; exact (Kv).trans X
 unfold yU
 rw [q]; rfl
 have C := tD C
 refine zo rfl (zF kr (st (yN rfl (st (zg (v := (zi W (sb vc) (so vc + fi.toNat * 2 + 1))) Tryd.isAgg40 rfl (zh (g.blk (i := 0) rfl) rfl) (st (zJ (n := ((c.getD fi.toNat default).set).length) Tryd.underlying40 rfl p.sl (st (zL (k := .i64) (a := ((((c.getD fi.toNat default).set).length : Nat) : Int)) (b := 64) rfl rfl (st (zb (v := .bool (decide (((((c.getD fi.toNat default).set).length : Nat) : Int) < 64))) rfl (stc (V := Ix L 1) rfl rfl (fun cb => ?_) ?_))))))))))))
 have aX := cb
 have aX := fD aX
 exact yN rfl ⟨rfl, rfl⟩
 refine stc (V := (zi W (sb vc) (so vc + fi.toNat * 2 + 1))) rfl rfl (fun aY => ?_) ?_
 have aZ := aY
 have aZ := fD aZ
 exact zg (v := (zi W (sb vc) (so vc + fi.toNat * 2 + 1))) Tryd.isAgg40 (show _ = (Ix L 1 : Value) from (if_pos aY)) (zh (g.blk (i := 0) rfl) rfl) ⟨rfl, rfl⟩
 refine stc (V := Iv arg) rfl rfl (fun cc => ?_) ?_
 have ba := cc
 have ba := fD ba
 exact zb (v := Iv arg) rfl ⟨rfl, rfl⟩
 refine Jb (V := .bool (decide (arg ∈ ((c.getD fi.toNat default).set)))) (fun _ wq => Sep G W ((Blk L ((c.getD fi.toNat default).cells (zi W (sb vc) (so vc + fi.toNat * 2 + 1))).toArray 42) :: (Blk aa ((t.fields.getD fi.toNat default).cells (zi W (sb dt0) (so dt0 + fi.toNat * 4 + 3))).toArray 79) :: (Blk b2 (t.cells dt0).toArray 33) :: Rs) wq) g rfl rfl (fun af => ?_) (fun w500 bb => ?_)
 have bc := af
 have bc := fD bc
 refine (zu (f := 99) (vals := [(zi W (sb vc) (so vc + fi.toNat * 2 + 1)), Iv arg]) (cap := []) rfl (yP ⟨(show _ = ((zi W (sb vc) (so vc + fi.toNat * 2 + 1)) : Value) from (if_pos af)), (show _ = (Iv arg : Value) from (if_pos af)), trivial⟩) Tryd.call99 (Kj (l := (c.getD fi.toNat default).set) (vl := (zi W (sb vc) (so vc + fi.toNat * 2 + 1))) (n := arg) p harg g) ?_)
 rintro _ w498 ⟨rfl, cd⟩
 exact ⟨rfl, cd⟩
 refine st (zG (b := decide (((((c.getD fi.toNat default).set).length : Nat) : Int) < 64)) (b' := decide (arg ∈ ((c.getD fi.toNat default).set))) rfl (fun hbp => (show _ = (.bool (decide (arg ∈ ((c.getD fi.toNat default).set))) : Value) from (if_pos hbp))) (st (ze (v := .bool ((decide (((((c.getD fi.toNat default).set).length : Nat) : Int) < 64)) || (decide (arg ∈ ((c.getD fi.toNat default).set))))) rfl (zf (zd (zd (za kr (fun _ => (st (zb (v := .bool ((decide (((((c.getD fi.toNat default).set).length : Nat) : Int) < 64)) || (decide (arg ∈ ((c.getD fi.toNat default).set))))) rfl (zf ?_)))))))))))
 cases O : (decide (((((c.getD fi.toNat default).set).length : Nat) : Int) < 64)) || (decide (arg ∈ ((c.getD fi.toNat default).set)))
 have Y := O
 try simp only [zj] at O
 refine zn rfl (zv (zd (za kr (fun _ => (st (ze (v := Iv 10) rfl (zf (zt (zO Tryd.results91 (show _ = (Iv 10 : Value) from rfl) ?_)))))))))
 have ce := bb.s3_
 refine ⟨?_, ce⟩
 congr 1
 have q : yV (yK t fi) c (yj c fi) op arg = false := by rw [C]; exact (Ku).trans Y
 unfold yU
 rw [q]; rfl
 have Y := O
 try simp only [zj] at O
 refine zo rfl (zd (za kr (fun _ => (st (ze (v := Iv 0) rfl (zf (zt (zO Tryd.results91 (show _ = (Iv 0 : Value) from rfl) ?_))))))))
 have cf := bb.s3_
 refine ⟨?_, cf⟩
 congr 1
 have q : yV (yK t fi) c (yj c fi) op arg = true := by rw [C]; exact (Ku).trans Y
 unfold yU
 rw [q]; rfl
 have B := tD B
 refine zo rfl (zd (za kr (fun _ => (st (yL rfl (st (zg (v := Iv ((c.getD fi.toNat default).n)) Tryd.isAgg3 rfl (zh (g.blk (i := 0) rfl) rfl) (st (zb (v := Iv arg) rfl (st (zV (r := IntKind.i64.wrap (((c.getD fi.toNat default).n) + arg)) (k := .i64) (a := (c.getD fi.toNat default).n) (b := arg) rfl rfl rfl (st (ze (v := Iv (IntKind.i64.wrap (((c.getD fi.toNat default).n) + arg))) rfl (zf (zF kr (st (yL rfl (st (zg (v := Iv ((c.getD fi.toNat default).n)) Tryd.isAgg3 rfl (zh (g.blk (i := 0) rfl) rfl) (st (yY (k := .i64) (a := (c.getD fi.toNat default).n) (b := 0) rfl rfl (st (zb (v := .bool (decide (0 ≤ ((c.getD fi.toNat default).n)))) rfl (stc (V := Iv arg) rfl rfl (fun cg => ?_) ?_))))))))))))))))))))))))
 have bd := cg
 have bd := tD bd
 exact zb (v := Iv arg) rfl ⟨rfl, rfl⟩
 refine stc (V := .bool (decide (0 ≤ arg))) rfl rfl (fun be => ?_) ?_
 have bf := be
 have bf := tD bf
 exact yY (k := .i64) (a := arg) (b := 0) (show _ = (Iv arg : Value) from (if_pos be)) rfl ⟨rfl, rfl⟩
 refine st (zx (b := decide (0 ≤ ((c.getD fi.toNat default).n))) (b' := decide (0 ≤ arg)) rfl (fun hbp => (show _ = (.bool (decide (0 ≤ arg)) : Value) from (if_pos hbp))) (st (zb (v := .bool ((decide (0 ≤ ((c.getD fi.toNat default).n))) && (decide (0 ≤ arg)))) rfl (stc (V := Iv (IntKind.i64.wrap (((c.getD fi.toNat default).n) + arg))) rfl rfl (fun ch => ?_) ?_))))
 have ci := ch
 try simp only [zj] at ci
 exact zb (v := Iv (IntKind.i64.wrap (((c.getD fi.toNat default).n) + arg))) rfl ⟨rfl, rfl⟩
 refine stc (V := .bool (decide ((IntKind.i64.wrap (((c.getD fi.toNat default).n) + arg)) < 0))) rfl rfl (fun bg => ?_) ?_
 have cj := bg
 try simp only [zj] at cj
 exact zL (k := .i64) (a := IntKind.i64.wrap (((c.getD fi.toNat default).n) + arg)) (b := 0) (show _ = (Iv (IntKind.i64.wrap (((c.getD fi.toNat default).n) + arg)) : Value) from (if_pos bg)) rfl ⟨rfl, rfl⟩
 refine st (zx (b := (decide (0 ≤ ((c.getD fi.toNat default).n))) && (decide (0 ≤ arg))) (b' := decide ((IntKind.i64.wrap (((c.getD fi.toNat default).n) + arg)) < 0)) rfl (fun hbp => (show _ = (.bool (decide ((IntKind.i64.wrap (((c.getD fi.toNat default).n) + arg)) < 0)) : Value) from (if_pos hbp))) (st (yt (a := ((decide (0 ≤ ((c.getD fi.toNat default).n))) && (decide (0 ≤ arg))) && (decide ((IntKind.i64.wrap (((c.getD fi.toNat default).n) + arg)) < 0))) rfl (st (zb (v := .bool (!(((decide (0 ≤ ((c.getD fi.toNat default).n))) && (decide (0 ≤ arg))) && (decide ((IntKind.i64.wrap (((c.getD fi.toNat default).n) + arg)) < 0))))) rfl (stc (V := Ix L 0) rfl rfl (fun ck => ?_) ?_))))))
 have cl := ck
 try simp only [zj] at cl
 exact yL rfl ⟨rfl, rfl⟩
 refine stc (V := Iv ((c.getD fi.toNat default).n)) rfl rfl (fun bh => ?_) ?_
 have cm := bh
 try simp only [zj] at cm
 exact zg (v := Iv ((c.getD fi.toNat default).n)) Tryd.isAgg3 (show _ = (Ix L 0 : Value) from (if_pos bh)) (zh (g.blk (i := 0) rfl) rfl) ⟨rfl, rfl⟩
 refine stc (V := .bool (decide (((c.getD fi.toNat default).n) < 0))) rfl rfl (fun bi => ?_) ?_
 have cn := bi
 try simp only [zj] at cn
 exact zL (k := .i64) (a := (c.getD fi.toNat default).n) (b := 0) (show _ = (Iv ((c.getD fi.toNat default).n) : Value) from (if_pos bi)) rfl ⟨rfl, rfl⟩
 refine stc (V := .bool (decide (((c.getD fi.toNat default).n) < 0))) rfl rfl (fun bj => ?_) ?_
 have co := bj
 try simp only [zj] at co
 exact zb (v := .bool (decide (((c.getD fi.toNat default).n) < 0))) (show _ = (.bool (decide (((c.getD fi.toNat default).n) < 0)) : Value) from (if_pos bj)) ⟨rfl, rfl⟩
 refine yI (V := Iv arg) rfl rfl (fun bk => ?_) ?_
 have cp := bk.1
 try simp only [zj] at cp
 have bl := bk.2
 have bl := tD bl
 exact zb (v := Iv arg) rfl ⟨rfl, rfl⟩
 refine yI (V := .bool (decide (arg < 0))) rfl rfl (fun P => ?_) ?_
 have cq := P.1
 try simp only [zj] at cq
 have bm := P.2
 have bm := tD bm
 exact zL (k := .i64) (a := arg) (b := 0) (show _ = (Iv arg : Value) from (if_pos ⟨P.1, P.2⟩)) rfl ⟨rfl, rfl⟩
 refine stc (V := .bool ((decide (((c.getD fi.toNat default).n) < 0)) && (decide (arg < 0)))) rfl rfl (fun ag => ?_) ?_
 have cr := ag
 try simp only [zj] at cr
 exact zx (b := decide (((c.getD fi.toNat default).n) < 0)) (b' := decide (arg < 0)) (show _ = (.bool (decide (((c.getD fi.toNat default).n) < 0)) : Value) from (if_pos ag)) (fun hbp => (show _ = (.bool (decide (arg < 0)) : Value) from (if_pos ⟨ag, hbp⟩))) ⟨rfl, rfl⟩
 refine stc (V := .bool ((decide (((c.getD fi.toNat default).n) < 0)) && (decide (arg < 0)))) rfl rfl (fun bn => ?_) ?_
 have cs := bn
 try simp only [zj] at cs
 exact zb (v := .bool ((decide (((c.getD fi.toNat default).n) < 0)) && (decide (arg < 0)))) (show _ = (.bool ((decide (((c.getD fi.toNat default).n) < 0)) && (decide (arg < 0))) : Value) from (if_pos bn)) ⟨rfl, rfl⟩
 refine yI (V := Iv (IntKind.i64.wrap (((c.getD fi.toNat default).n) + arg))) rfl rfl (fun bp => ?_) ?_
 have ct := bp.1
 try simp only [zj] at ct
 have cu := bp.2
 try simp only [zj] at cu
 exact zb (v := Iv (IntKind.i64.wrap (((c.getD fi.toNat default).n) + arg))) rfl ⟨rfl, rfl⟩
 refine yI (V := .bool (decide (0 ≤ (IntKind.i64.wrap (((c.getD fi.toNat default).n) + arg))))) rfl rfl (fun Q => ?_) ?_
 have cv := Q.1
 try simp only [zj] at cv
 have cw := Q.2
 try simp only [zj] at cw
 exact yY (k := .i64) (a := IntKind.i64.wrap (((c.getD fi.toNat default).n) + arg)) (b := 0) (show _ = (Iv (IntKind.i64.wrap (((c.getD fi.toNat default).n) + arg)) : Value) from (if_pos ⟨Q.1, Q.2⟩)) rfl ⟨rfl, rfl⟩
 refine stc (V := .bool (((decide (((c.getD fi.toNat default).n) < 0)) && (decide (arg < 0))) && (decide (0 ≤ (IntKind.i64.wrap (((c.getD fi.toNat default).n) + arg)))))) rfl rfl (fun ah => ?_) ?_
 have cx := ah
 try simp only [zj] at cx
 exact zx (b := (decide (((c.getD fi.toNat default).n) < 0)) && (decide (arg < 0))) (b' := decide (0 ≤ (IntKind.i64.wrap (((c.getD fi.toNat default).n) + arg)))) (show _ = (.bool ((decide (((c.getD fi.toNat default).n) < 0)) && (decide (arg < 0))) : Value) from (if_pos ah)) (fun hbp => (show _ = (.bool (decide (0 ≤ (IntKind.i64.wrap (((c.getD fi.toNat default).n) + arg)))) : Value) from (if_pos ⟨ah, hbp⟩))) ⟨rfl, rfl⟩
 refine stc (V := .bool (!(((decide (((c.getD fi.toNat default).n) < 0)) && (decide (arg < 0))) && (decide (0 ≤ (IntKind.i64.wrap (((c.getD fi.toNat default).n) + arg))))))) rfl rfl (fun bq => ?_) ?_
 have cy := bq
 try simp only [zj] at cy
 exact yt (a := ((decide (((c.getD fi.toNat default).n) < 0)) && (decide (arg < 0))) && (decide (0 ≤ (IntKind.i64.wrap (((c.getD fi.toNat default).n) + arg))))) (show _ = (.bool (((decide (((c.getD fi.toNat default).n) < 0)) && (decide (arg < 0))) && (decide (0 ≤ (IntKind.i64.wrap (((c.getD fi.toNat default).n) + arg))))) : Value) from (if_pos bq)) ⟨rfl, rfl⟩
 refine st (zx (b := !(((decide (0 ≤ ((c.getD fi.toNat default).n))) && (decide (0 ≤ arg))) && (decide ((IntKind.i64.wrap (((c.getD fi.toNat default).n) + arg)) < 0)))) (b' := !(((decide (((c.getD fi.toNat default).n) < 0)) && (decide (arg < 0))) && (decide (0 ≤ (IntKind.i64.wrap (((c.getD fi.toNat default).n) + arg)))))) rfl (fun hbp => (show _ = (.bool (!(((decide (((c.getD fi.toNat default).n) < 0)) && (decide (arg < 0))) && (decide (0 ≤ (IntKind.i64.wrap (((c.getD fi.toNat default).n) + arg)))))) : Value) from (if_pos hbp))) (st (zb (v := .bool ((!(((decide (0 ≤ ((c.getD fi.toNat default).n))) && (decide (0 ≤ arg))) && (decide ((IntKind.i64.wrap (((c.getD fi.toNat default).n) + arg)) < 0)))) && (!(((decide (((c.getD fi.toNat default).n) < 0)) && (decide (arg < 0))) && (decide (0 ≤ (IntKind.i64.wrap (((c.getD fi.toNat default).n) + arg)))))))) rfl (stc (V := Ix aa 2) rfl rfl (fun cz => ?_) ?_))))
 have cA := cz
 try simp only [zj] at cA
 exact XR rfl ⟨rfl, rfl⟩
 refine stc (V := .bool ((t.fields.getD fi.toNat default).floor)) rfl rfl (fun br => ?_) ?_
 have cB := br
 try simp only [zj] at cB
 exact zg (v := .bool ((t.fields.getD fi.toNat default).floor)) Tryd.isAgg4 (show _ = (Ix aa 2 : Value) from (if_pos br)) (zh (g.blk (i := 1) rfl) rfl) ⟨rfl, rfl⟩
 refine stc (V := .bool ((t.fields.getD fi.toNat default).floor)) rfl rfl (fun bs => ?_) ?_
 have cC := bs
 try simp only [zj] at cC
 exact zb (v := .bool ((t.fields.getD fi.toNat default).floor)) (show _ = (.bool ((t.fields.getD fi.toNat default).floor) : Value) from (if_pos bs)) ⟨rfl, rfl⟩
 refine yI (V := Iv (IntKind.i64.wrap (((c.getD fi.toNat default).n) + arg))) rfl rfl (fun bt => ?_) ?_
 have cD := bt.1
 try simp only [zj] at cD
 have hl549 := bt.2
 exact zb (v := Iv (IntKind.i64.wrap (((c.getD fi.toNat default).n) + arg))) rfl ⟨rfl, rfl⟩
 refine yI (V := .bool (decide ((IntKind.i64.wrap (((c.getD fi.toNat default).n) + arg)) < 0))) rfl rfl (fun R => ?_) ?_
 have cE := R.1
 try simp only [zj] at cE
 have hl552 := R.2
 exact zL (k := .i64) (a := IntKind.i64.wrap (((c.getD fi.toNat default).n) + arg)) (b := 0) (show _ = (Iv (IntKind.i64.wrap (((c.getD fi.toNat default).n) + arg)) : Value) from (if_pos ⟨R.1, R.2⟩)) rfl ⟨rfl, rfl⟩
 refine stc (V := .bool (((t.fields.getD fi.toNat default).floor) && (decide ((IntKind.i64.wrap (((c.getD fi.toNat default).n) + arg)) < 0)))) rfl rfl (fun ai => ?_) ?_
 have cF := ai
 try simp only [zj] at cF
 exact zx (b := (t.fields.getD fi.toNat default).floor) (b' := decide ((IntKind.i64.wrap (((c.getD fi.toNat default).n) + arg)) < 0)) (show _ = (.bool ((t.fields.getD fi.toNat default).floor) : Value) from (if_pos ai)) (fun hbp => (show _ = (.bool (decide ((IntKind.i64.wrap (((c.getD fi.toNat default).n) + arg)) < 0)) : Value) from (if_pos ⟨ai, hbp⟩))) ⟨rfl, rfl⟩
 refine stc (V := .bool (!(((t.fields.getD fi.toNat default).floor) && (decide ((IntKind.i64.wrap (((c.getD fi.toNat default).n) + arg)) < 0))))) rfl rfl (fun bu => ?_) ?_
 have cG := bu
 try simp only [zj] at cG
 exact yt (a := ((t.fields.getD fi.toNat default).floor) && (decide ((IntKind.i64.wrap (((c.getD fi.toNat default).n) + arg)) < 0))) (show _ = (.bool (((t.fields.getD fi.toNat default).floor) && (decide ((IntKind.i64.wrap (((c.getD fi.toNat default).n) + arg)) < 0))) : Value) from (if_pos bu)) ⟨rfl, rfl⟩
 refine st (zx (b := (!(((decide (0 ≤ ((c.getD fi.toNat default).n))) && (decide (0 ≤ arg))) && (decide ((IntKind.i64.wrap (((c.getD fi.toNat default).n) + arg)) < 0)))) && (!(((decide (((c.getD fi.toNat default).n) < 0)) && (decide (arg < 0))) && (decide (0 ≤ (IntKind.i64.wrap (((c.getD fi.toNat default).n) + arg))))))) (b' := !(((t.fields.getD fi.toNat default).floor) && (decide ((IntKind.i64.wrap (((c.getD fi.toNat default).n) + arg)) < 0)))) rfl (fun hbp => (show _ = (.bool (!(((t.fields.getD fi.toNat default).floor) && (decide ((IntKind.i64.wrap (((c.getD fi.toNat default).n) + arg)) < 0)))) : Value) from (if_pos hbp))) (st (ze (v := .bool (((!(((decide (0 ≤ ((c.getD fi.toNat default).n))) && (decide (0 ≤ arg))) && (decide ((IntKind.i64.wrap (((c.getD fi.toNat default).n) + arg)) < 0)))) && (!(((decide (((c.getD fi.toNat default).n) < 0)) && (decide (arg < 0))) && (decide (0 ≤ (IntKind.i64.wrap (((c.getD fi.toNat default).n) + arg))))))) && (!(((t.fields.getD fi.toNat default).floor) && (decide ((IntKind.i64.wrap (((c.getD fi.toNat default).n) + arg)) < 0)))))) rfl (zf (zd (zd (za kr (fun _ => ?_))))))))
 refine st (zb (v := .bool (((!(((decide (0 ≤ ((c.getD fi.toNat default).n))) && (decide (0 ≤ arg))) && (decide ((IntKind.i64.wrap (((c.getD fi.toNat default).n) + arg)) < 0)))) && (!(((decide (((c.getD fi.toNat default).n) < 0)) && (decide (arg < 0))) && (decide (0 ≤ (IntKind.i64.wrap (((c.getD fi.toNat default).n) + arg))))))) && (!(((t.fields.getD fi.toNat default).floor) && (decide ((IntKind.i64.wrap (((c.getD fi.toNat default).n) + arg)) < 0)))))) rfl (zf ?_))
 cases S : ((!(((decide (0 ≤ ((c.getD fi.toNat default).n))) && (decide (0 ≤ arg))) && (decide ((IntKind.i64.wrap (((c.getD fi.toNat default).n) + arg)) < 0)))) && (!(((decide (((c.getD fi.toNat default).n) < 0)) && (decide (arg < 0))) && (decide (0 ≤ (IntKind.i64.wrap (((c.getD fi.toNat default).n) + arg))))))) && (!(((t.fields.getD fi.toNat default).floor) && (decide ((IntKind.i64.wrap (((c.getD fi.toNat default).n) + arg)) < 0))))
 have Z := S
 try simp only [zj] at S
 refine zn rfl (zv (zd (za kr (fun _ => (st (ze (v := Iv 10) rfl (zf (zt (zO Tryd.results91 (show _ = (Iv 10 : Value) from rfl) ?_)))))))))
 have cH := g.s3_
 refine ⟨?_, cH⟩
 congr 1
 have q : yV (yK t fi) c (yj c fi) op arg = false := by rw [B]; exact (Kw (T).n harg).trans Z
 unfold yU
 rw [q]; rfl
 have Z := S
 try simp only [zj] at S
 refine zo rfl (zd (za kr (fun _ => (st (ze (v := Iv 0) rfl (zf (zt (zO Tryd.results91 (show _ = (Iv 0 : Value) from rfl) ?_))))))))
 have cI := g.s3_
 refine ⟨?_, cI⟩
 congr 1
 have q : yV (yK t fi) c (yj c fi) op arg = true := by rw [B]; exact (Kw (T).n harg).trans Z
 unfold yU
 rw [q]; rfl

end Go.Proofs.YtlblilbmpdejgaaDoor
/- Steps of the proofs of this seat: part F25. -/
set_option maxRecDepth 8000
set_option maxHeartbeats 4000000
namespace Go.Proofs.YtlblilbmpdejgaaDoor
open Go.Proofs Go.RowKit

theorem Yk {t : Typ} {c : List Cel} {fi op arg a : Int} {S : List Int} (h : (⟨a, S⟩ : Cel) = yD (yK t fi) (yj c fi) op arg) : c.set fi.toNat (⟨a, S⟩ : Cel) = doL t c fi op arg := by unfold doL; rw [h]
theorem dc_1 {fl : Fld} {c : Cel} {arg : Int} : yD fl c 1 arg = ⟨IntKind.i64.wrap (c.n + arg), c.set⟩ := rfl
theorem dc_2 {fl : Fld} {c : Cel} {arg : Int} : yD fl c 2 arg = ⟨arg, c.set⟩ := rfl
theorem dc_3 {fl : Fld} {c : Cel} {arg : Int} : yD fl c 3 arg = ⟨c.n, Zd c.set arg⟩ := rfl
theorem dc_4 {fl : Fld} {c : Cel} {arg : Int} : yD fl c 4 arg = ⟨c.n, xE c.set arg⟩ := rfl
theorem dc_5 {fl : Fld} {c : Cel} {arg : Int} : yD fl c 5 arg = ⟨(Zk fl arg).to, c.set⟩ := rfl
theorem dc_o {fl : Fld} {c : Cel} {op arg : Int} (h1 : ¬ op = 1) (h2 : ¬ op = 2) (h3 : ¬ op = 3) (h4 : ¬ op = 4) (h5 : ¬ op = 5) : yD fl c op arg = c := by unfold yD; rw [if_neg h1, if_neg h2, if_neg h3, if_neg h4, if_neg h5]
theorem Qm {G : Nat → Prop} {W w : World} {Rs : List HP} {t : Typ} {dt0 : Value} (hdt0 : RdS W G dt0 t.fields) (ot : t.Ok) {vc : Value} {c : List Cel} (hc : RdS W G vc c) {fi : Int} (hfi : InR fi) {op : Int} (hop : InR op) {arg : Int} (harg : InR arg) (hS0 : Sep G W Rs w) (hask : Yy t c fi op arg) (hfew : (c.getD fi.toNat default).set.length ≤ 1000) : Ret Tryd.prog 50 [.agg (t.cells dt0).toArray, vc, .int .i64 (fi), .int .i64 (op), .int .i64 (arg)] w (fun r w' => ∃ (v : Value), r = (v : Value) ∧ Sep G W ((RowE (α := Cel) own 42 v (doL t c fi op arg)) :: Rs) w') := by
 have hdt0s : _ * 48 ≤ _ := hdt0.small
 have hcs : _ * 32 ≤ _ := hc.small
 have ha0 := hask.1
 have ha1 := hask.2.1
 have ha2 := hask.2.2.1
 refine zr (args := [.agg (t.cells dt0).toArray, vc, Iv fi, Iv op, Iv arg]) Tryd.func50 rfl rfl ?_
 refine zd (za kr (fun _ => (st (zT (v := .agg (t.cells dt0).toArray) rfl ?_))))
 intro w3 b2 bI
 have bJ := hS0.new bI
 refine st (ze (v := (Iz)) rfl (zf (zd (za kr (fun _ => (st (zb (v := vc) rfl (st (zu (f := 74) (vals := [vc]) (cap := []) rfl rfl Tryd.call74 (Jm (c := c) (vc := vc) hc bJ) ?_)))))))))
 rintro e w6 ⟨_, rfl, bL⟩
 refine st (ze (v := e) rfl (zf (zd (za kr (fun _ => ?_)))))
 obtain ⟨d, h, ba⟩ := CelW.open bL
 have hsh9l := h.1
 have O : Sep G W ((RowE (α := CelS) own 42 e d) :: (Star (SetRows 3 d c)) :: (Blk b2 (t.cells dt0).toArray 33) :: Rs) w6 := ba
 have y := O.row (i := 0) rfl
 have hr11s : _ * 32 ≤ _ := y.2
 have P := h.2 fi.toNat om
 have bb := O.mv1
 have L : Sep G W ((RowE (α := Int) own 3 ((d.getD fi.toNat default).v) ((c.getD fi.toNat default).set)) :: (Star ((SetRows 3 d c).set fi.toNat Emp)) :: (RowE (α := CelS) own 42 e d) :: (Blk b2 (t.cells dt0).toArray 33) :: Rs) w6 := Sep.takeStar bb (SetRows.get (i := fi.toNat) om om)
 have p := L.row (i := 0) rfl
 have hr14s : _ * 8 ≤ _ := p.2
 refine st (zb (v := e) rfl (st (zb (v := Iv fi) rfl ?_)))
 have hi15 : fi.toNat < d.length := bo
 refine st (zz (k := 2) (i := fi) Tryd.underlying26 Tryd.sizeOf42 rfl y.1 rfl ⟨by omega, by omega⟩ ?_)
 have ag : fi.toNat < d.length := bo
 obtain ⟨_, _, Q, rfl, z⟩ := L.rowAt (i := 2) (j := fi.toNat) rfl ag
 rw [← zm default ag] at Q z
 refine st (zl (k := 2) Tryd.isAgg42 Tryd.sizeOf42 rfl rfl Q (st (zB Tryd.zeroValue42 ?_)))
 intro w20 x bc
 have ah := L.new bc
 refine stn (zy (v := .agg ((d.getD fi.toNat default).cells).toArray) (c' := ((d.getD fi.toNat default).cells).toArray) Tryd.sizeOf42 rfl rfl (ah.blk (i := 0) rfl) (ya ⟨rfl, p.1.one, trivial⟩) (Nat.le_of_ble_eq_true rfl) rfl ?_)
 intro w22 bd
 have g := ah.pt0 bd
 refine zf (zd (zd (za kr (fun _ => (st (zb (v := Iv op) rfl (zf (zw (zd (za kr (fun _ => (st (zP (k := .i64) (a := op) (b := 1) rfl rfl (st (ze (v := .bool (decide (op = 1))) rfl (zf ?_))))))))))))))))
 cases D : decide (op = 1)
 have D := fD D
 refine zn rfl (zd (za kr (fun _ => (st (zP (k := .i64) (a := op) (b := 2) rfl rfl (st (ze (v := .bool (decide (op = 2))) rfl (zf ?_))))))))
 cases E : decide (op = 2)
 have E := fD E
 refine zn rfl (zd (za kr (fun _ => (st (zP (k := .i64) (a := op) (b := 3) rfl rfl (st (ze (v := .bool (decide (op = 3))) rfl (zf ?_))))))))
 cases F : decide (op = 3)
 have F := fD F
 refine zn rfl (zd (za kr (fun _ => (st (zP (k := .i64) (a := op) (b := 4) rfl rfl (st (ze (v := .bool (decide (op = 4))) rfl (zf ?_))))))))
 cases H : decide (op = 4)
 have H := fD H
 refine zn rfl (zd (za kr (fun _ => (st (zP (k := .i64) (a := op) (b := 5) rfl rfl (st (ze (v := .bool (decide (op = 5))) rfl (zf ?_))))))))
 cases A : decide (op = 5)
 have A := fD A
 refine zn rfl (zv (zd (za kr (fun _ => (st (zb (v := e) rfl (st (zb (v := Iv fi) rfl (st (zl (k := 2) Tryd.isAgg42 Tryd.sizeOf42 rfl rfl (CellsAt.all (g.blk (i := 0) rfl)) ?_))))))))))
 have hi30 : fi.toNat < d.length := bo
 refine st (zz (k := 2) (i := fi) Tryd.underlying26 Tryd.sizeOf42 rfl y.1 rfl ⟨by omega, by omega⟩ ?_)
 have be := g.mv3
 have bf := be.emp1
 refine stn (yE (α := CelS) (j := fi.toNat) (o := 0) (u := .agg ((d.getD fi.toNat default).cells).toArray) (us := (d.getD fi.toNat default).cells) (x1 := (⟨(d.getD fi.toNat default).n, (d.getD fi.toNat default).v⟩ : CelS)) bf Tryd.sizeOf42 bo rfl rfl rfl (Nat.le_of_ble_eq_true rfl) (ya ⟨rfl, p.1.one, trivial⟩) (fun _ _ _ hel _ => (by rw [← zm default (by omega)] at hel; obtain ⟨rfl, hok⟩ := hel; exact ⟨rfl, ⟨z.n, p.1.one⟩⟩)) ?_)
 intro aW ai
 have bg := ai.row (i := 0) rfl
 have hr35s : _ * 32 ≤ _ := bg.2
 refine zf (zd ?_)
 have bh := ai.s5_cdabe
 have aj : Sep G W ((CelW e 42 3 (c.set fi.toNat (⟨(d.getD fi.toNat default).n, (c.getD fi.toNat default).set⟩ : Cel))) :: (Blk x ((d.getD fi.toNat default).cells).toArray 42) :: (Blk b2 (t.cells dt0).toArray 33) :: Rs) aW := CelW.close (i := fi.toNat) (s := (⟨(d.getD fi.toNat default).n, (d.getD fi.toNat default).v⟩ : CelS)) (c := (⟨(d.getD fi.toNat default).n, (c.getD fi.toNat default).set⟩ : Cel)) h.1 h.2 om rfl bh
 have m : c.set fi.toNat (⟨(d.getD fi.toNat default).n, (c.getD fi.toNat default).set⟩ : Cel) = doL t c fi op arg := Yk (by rw [P, dc_o (by omega) (by omega) (by omega) (by omega) (by omega)]; rfl)
 rw [m] at aj
 have bi : Sep G W ((RowE (α := Cel) own 42 e (doL t c fi op arg)) :: (Blk x ((d.getD fi.toNat default).cells).toArray 42) :: (Blk b2 (t.cells dt0).toArray 33) :: Rs) aW := CelW.row aj
 refine za kr (fun _ => (st (zb (v := e) rfl (st (ze (v := e) rfl (zf (zt (zO Tryd.results50 (show _ = (e : Value) from rfl) ?_))))))))
 have bj := bi.s3_a
 refine ⟨e, rfl, bj⟩
 have A := tD A
 have bM := hask.2.2.2.2 A
 have ha51 : arg < (t.fields.getD fi.toNat default).moves.length := bM.2.1
 refine zo rfl (za kr (fun _ => (st (yA rfl (st (zg (v := dt0) Tryd.isAgg31 rfl (zh (g.blk (i := 4) rfl) rfl) (st (zb (v := Iv fi) rfl ?_))))))))
 have hi40 : fi.toNat < t.fields.length := bo
 refine st (zz (k := 4) (i := fi) Tryd.underlying31 Tryd.sizeOf79 rfl hdt0.sl rfl ⟨by omega, by omega⟩ (st (yz rfl ?_)))
 have M : fi.toNat < t.fields.length := bo
 obtain ⟨R, q, ak⟩ := hdt0.fld M
 rw [← zm default M] at R q ak
 have hsm43 : ((t.fields.getD fi.toNat default).moves).length * 32 ≤ 140737488355328 := q.small
 have az := g.cells R (hdt0.foot (ne_of_lt M))
 refine st (zg (v := (zi W (sb dt0) (so dt0 + fi.toNat * 4 + 3))) Tryd.isAgg77 rfl (az.get (j := 3) rfl) (st (zb (v := Iv arg) rfl ?_)))
 have hi45 : arg.toNat < ((t.fields.getD fi.toNat default).moves).length := bo
 refine st (zz (k := 4) (i := arg) Tryd.underlying77 Tryd.sizeOf115 rfl q.sl rfl ⟨by omega, by omega⟩ (st (XY rfl ?_)))
 have N : arg.toNat < ((t.fields.getD fi.toNat default).moves).length := bo
 obtain ⟨S, K⟩ := q.mv N
 rw [← zm default N] at S K
 have aA := g.cells S (q.foot (ne_of_lt N))
 refine st (zg (v := Iv ((((t.fields.getD fi.toNat default).moves).getD arg.toNat default).to)) Tryd.isAgg3 rfl (aA.get (j := 1) rfl) (st (yL rfl (stn (yv (v := Iv ((((t.fields.getD fi.toNat default).moves).getD arg.toNat default).to)) (c := [Iv ((d.getD fi.toNat default).n), (d.getD fi.toNat default).v]) (c' := [Iv ((((t.fields.getD fi.toNat default).moves).getD arg.toNat default).to), (d.getD fi.toNat default).v]) Tryd.sizeOf3 rfl rfl (g.blk (i := 0) rfl) rfl rfl rfl ?_)))))
 intro w49 bk
 have al := g.pt0 bk
 refine zf (zd (za kr (fun _ => (st (zb (v := e) rfl (st (zb (v := Iv fi) rfl (st (zl (k := 2) Tryd.isAgg42 Tryd.sizeOf42 rfl rfl (CellsAt.all (al.blk (i := 0) rfl)) ?_)))))))))
 have hi52 : fi.toNat < d.length := bo
 refine st (zz (k := 2) (i := fi) Tryd.underlying26 Tryd.sizeOf42 rfl y.1 rfl ⟨by omega, by omega⟩ ?_)
 have bl := al.mv3
 have bm := bl.emp1
 refine stn (yE (α := CelS) (j := fi.toNat) (o := 0) (u := .agg #[Iv ((((t.fields.getD fi.toNat default).moves).getD arg.toNat default).to), (d.getD fi.toNat default).v]) (us := [Iv ((((t.fields.getD fi.toNat default).moves).getD arg.toNat default).to), (d.getD fi.toNat default).v]) (x1 := (⟨(((t.fields.getD fi.toNat default).moves).getD arg.toNat default).to, (d.getD fi.toNat default).v⟩ : CelS)) bm Tryd.sizeOf42 bo rfl rfl rfl (Nat.le_of_ble_eq_true rfl) (ya ⟨rfl, p.1.one, trivial⟩) (fun _ _ _ hel _ => (by rw [← zm default (by omega)] at hel; obtain ⟨rfl, hok⟩ := hel; exact ⟨rfl, ⟨K.to, p.1.one⟩⟩)) ?_)
 intro aX am
 have bn := am.row (i := 0) rfl
 have hr57s : _ * 32 ≤ _ := bn.2
 refine zf (zd ?_)
 have bp := am.s5_cdabe
 have an : Sep G W ((CelW e 42 3 (c.set fi.toNat (⟨(((t.fields.getD fi.toNat default).moves).getD arg.toNat default).to, (c.getD fi.toNat default).set⟩ : Cel))) :: (Blk x #[Iv ((((t.fields.getD fi.toNat default).moves).getD arg.toNat default).to), (d.getD fi.toNat default).v] 42) :: (Blk b2 (t.cells dt0).toArray 33) :: Rs) aX := CelW.close (i := fi.toNat) (s := (⟨(((t.fields.getD fi.toNat default).moves).getD arg.toNat default).to, (d.getD fi.toNat default).v⟩ : CelS)) (c := (⟨(((t.fields.getD fi.toNat default).moves).getD arg.toNat default).to, (c.getD fi.toNat default).set⟩ : Cel)) h.1 h.2 om rfl bp
 have m : c.set fi.toNat (⟨(((t.fields.getD fi.toNat default).moves).getD arg.toNat default).to, (c.getD fi.toNat default).set⟩ : Cel) = doL t c fi op arg := Yk (by rw [A, dc_5]; rfl)
 rw [m] at an
 have bq : Sep G W ((RowE (α := Cel) own 42 e (doL t c fi op arg)) :: (Blk x #[Iv ((((t.fields.getD fi.toNat default).moves).getD arg.toNat default).to), (d.getD fi.toNat default).v] 42) :: (Blk b2 (t.cells dt0).toArray 33) :: Rs) aX := CelW.row an
 refine za kr (fun _ => (st (zb (v := e) rfl (st (ze (v := e) rfl (zf (zt (zO Tryd.results50 (show _ = (e : Value) from rfl) ?_))))))))
 have br := bq.s3_a
 refine ⟨e, rfl, br⟩
 have H := tD H
 have aY : Asc (c.getD fi.toNat default).set := hask.2.2.2.1 om
 refine zo rfl (za kr (fun _ => (st (yN rfl (st (zg (v := (d.getD fi.toNat default).v) Tryd.isAgg40 rfl (zh (g.blk (i := 0) rfl) rfl) (st (zb (v := Iv arg) rfl ?_))))))))
 have bs := g.mv1
 obtain ⟨G63, bt, hB66, bu, bv⟩ := bs.lend
 have T := RowE.rd bt
 have hrd69s : _ * 8 ≤ _ := T.small
 refine st (zu (f := 76) (vals := [(d.getD fi.toNat default).v, Iv arg]) (cap := []) rfl rfl Tryd.call76 (Uy (l := (c.getD fi.toNat default).set) (vl := (d.getD fi.toNat default).v) (n := arg) T harg bu (hfew)) ?_)
 rintro B w71 ⟨_, rfl, ao⟩
 have I := ao.row (i := 0) rfl
 have hr73s : _ * 8 ≤ _ := I.2
 have ap := bv _ _ ao
 refine st (yN rfl (stn (yv (v := B) (c := [Iv ((d.getD fi.toNat default).n), (d.getD fi.toNat default).v]) (c' := [Iv ((d.getD fi.toNat default).n), B]) Tryd.sizeOf40 rfl rfl (ap.blk (i := 2) rfl) I.1.one rfl rfl ?_)))
 intro w75 bw
 have aq := ap.pt2 bw
 refine zf (zd (za kr (fun _ => (st (zb (v := e) rfl (st (zb (v := Iv fi) rfl (st (zl (k := 2) Tryd.isAgg42 Tryd.sizeOf42 rfl rfl (CellsAt.all (aq.blk (i := 2) rfl)) ?_)))))))))
 have hi78 : fi.toNat < d.length := bo
 refine st (zz (k := 2) (i := fi) Tryd.underlying26 Tryd.sizeOf42 rfl y.1 rfl ⟨by omega, by omega⟩ ?_)
 have bx := aq.mv4
 have bz := bx.emp1
 refine stn (yE (α := CelS) (j := fi.toNat) (o := 0) (u := .agg #[Iv ((d.getD fi.toNat default).n), B]) (us := [Iv ((d.getD fi.toNat default).n), B]) (x1 := (⟨(d.getD fi.toNat default).n, B⟩ : CelS)) bz Tryd.sizeOf42 bo rfl rfl rfl (Nat.le_of_ble_eq_true rfl) (ya ⟨rfl, I.1.one, trivial⟩) (fun _ _ _ hel _ => (by rw [← zm default (by omega)] at hel; obtain ⟨rfl, hok⟩ := hel; exact ⟨rfl, ⟨z.n, I.1.one⟩⟩)) ?_)
 intro aZ ar
 have bA := ar.row (i := 0) rfl
 have hr83s : _ * 32 ≤ _ := bA.2
 refine zf (zd ?_)
 have bB := ar.s6_ceabdf
 have au : Sep G W ((CelW e 42 3 (c.set fi.toNat (⟨(d.getD fi.toNat default).n, (xE ((c.getD fi.toNat default).set) arg)⟩ : Cel))) :: (RowE (α := Int) own 3 ((d.getD fi.toNat default).v) ((c.getD fi.toNat default).set)) :: (Blk x #[Iv ((d.getD fi.toNat default).n), B] 42) :: (Blk b2 (t.cells dt0).toArray 33) :: Rs) aZ := CelW.close (i := fi.toNat) (s := (⟨(d.getD fi.toNat default).n, B⟩ : CelS)) (c := (⟨(d.getD fi.toNat default).n, (xE ((c.getD fi.toNat default).set) arg)⟩ : Cel)) h.1 h.2 om rfl bB
 have m : c.set fi.toNat (⟨(d.getD fi.toNat default).n, (xE ((c.getD fi.toNat default).set) arg)⟩ : Cel) = doL t c fi op arg := Yk (by rw [P, H, dc_4]; rfl)
 rw [m] at au
 have bC : Sep G W ((RowE (α := Cel) own 42 e (doL t c fi op arg)) :: (RowE (α := Int) own 3 ((d.getD fi.toNat default).v) ((c.getD fi.toNat default).set)) :: (Blk x #[Iv ((d.getD fi.toNat default).n), B] 42) :: (Blk b2 (t.cells dt0).toArray 33) :: Rs) aZ := CelW.row au
 refine za kr (fun _ => (st (zb (v := e) rfl (st (ze (v := e) rfl (zf (zt (zO Tryd.results50 (show _ = (e : Value) from rfl) ?_))))))))
 have bD := bC.s4_a
 refine ⟨e, rfl, bD⟩
 have F := tD F
 have aY : Asc (c.getD fi.toNat default).set := hask.2.2.2.1 om
 refine zo rfl (za kr (fun _ => (st (yN rfl (st (zg (v := (d.getD fi.toNat default).v) Tryd.isAgg40 rfl (zh (g.blk (i := 0) rfl) rfl) (st (zb (v := Iv arg) rfl ?_))))))))
 have bE := g.mv1
 obtain ⟨G89, bF, hB92, bG, bH⟩ := bE.lend
 have U := RowE.rd bF
 have hrd95s : _ * 8 ≤ _ := U.small
 refine st (zu (f := 75) (vals := [(d.getD fi.toNat default).v, Iv arg]) (cap := []) rfl rfl Tryd.call75 (KF (l := (c.getD fi.toNat default).set) (vl := (d.getD fi.toNat default).v) (n := arg) U harg bG (aY) (hfew)) ?_)
 rintro C w97 ⟨_, rfl, av⟩
 have J := av.row (i := 0) rfl
 have hr99s : _ * 8 ≤ _ := J.2
 have V := bH _ _ av
 refine st (yN rfl (stn (yv (v := C) (c := [Iv ((d.getD fi.toNat default).n), (d.getD fi.toNat default).v]) (c' := [Iv ((d.getD fi.toNat default).n), C]) Tryd.sizeOf40 rfl rfl (V.blk (i := 2) rfl) J.1.one rfl rfl ?_)))
 intro w101 aB
 have X := V.pt2 aB
 refine zf (zd (za kr (fun _ => (st (zb (v := e) rfl (st (zb (v := Iv fi) rfl (st (zl (k := 2) Tryd.isAgg42 Tryd.sizeOf42 rfl rfl (CellsAt.all (X.blk (i := 2) rfl)) ?_)))))))))
 have hi104 : fi.toNat < d.length := bo
 refine st (zz (k := 2) (i := fi) Tryd.underlying26 Tryd.sizeOf42 rfl y.1 rfl ⟨by omega, by omega⟩ ?_)
 have aC := X.mv4
 have aD := aC.emp1
 refine stn (yE (α := CelS) (j := fi.toNat) (o := 0) (u := .agg #[Iv ((d.getD fi.toNat default).n), C]) (us := [Iv ((d.getD fi.toNat default).n), C]) (x1 := (⟨(d.getD fi.toNat default).n, C⟩ : CelS)) aD Tryd.sizeOf42 bo rfl rfl rfl (Nat.le_of_ble_eq_true rfl) (ya ⟨rfl, J.1.one, trivial⟩) (fun _ _ _ hel _ => (by rw [← zm default (by omega)] at hel; obtain ⟨rfl, hok⟩ := hel; exact ⟨rfl, ⟨z.n, J.1.one⟩⟩)) ?_)
 intro aw Y
 have aE := Y.row (i := 0) rfl
 have hr109s : _ * 32 ≤ _ := aE.2
 refine zf (zd ?_)
 have aF := Y.s6_ceabdf
 have Z : Sep G W ((CelW e 42 3 (c.set fi.toNat (⟨(d.getD fi.toNat default).n, (Zd ((c.getD fi.toNat default).set) arg)⟩ : Cel))) :: (RowE (α := Int) own 3 ((d.getD fi.toNat default).v) ((c.getD fi.toNat default).set)) :: (Blk x #[Iv ((d.getD fi.toNat default).n), C] 42) :: (Blk b2 (t.cells dt0).toArray 33) :: Rs) aw := CelW.close (i := fi.toNat) (s := (⟨(d.getD fi.toNat default).n, C⟩ : CelS)) (c := (⟨(d.getD fi.toNat default).n, (Zd ((c.getD fi.toNat default).set) arg)⟩ : Cel)) h.1 h.2 om rfl aF
 have m : c.set fi.toNat (⟨(d.getD fi.toNat default).n, (Zd ((c.getD fi.toNat default).set) arg)⟩ : Cel) = doL t c fi op arg := Yk (by rw [P, F, dc_3]; rfl)
 rw [m] at Z
 have aG : Sep G W ((RowE (α := Cel) own 42 e (doL t c fi op arg)) :: (RowE (α := Int) own 3 ((d.getD fi.toNat default).v) ((c.getD fi.toNat default).set)) :: (Blk x #[Iv ((d.getD fi.toNat default).n), C] 42) :: (Blk b2 (t.cells dt0).toArray 33) :: Rs) aw := CelW.row Z
 refine za kr (fun _ => (st (zb (v := e) rfl (st (ze (v := e) rfl (zf (zt (zO Tryd.results50 (show _ = (e : Value) from rfl) ?_))))))))
 have aH := aG.s4_a
 refine ⟨e, rfl, aH⟩
 have E := tD E
 refine zo rfl (za kr (fun _ => (st (zb (v := Iv arg) rfl (st (yL rfl (stn (yv (v := Iv arg) (c := [Iv ((d.getD fi.toNat default).n), (d.getD fi.toNat default).v]) (c' := [Iv arg, (d.getD fi.toNat default).v]) Tryd.sizeOf3 rfl rfl (g.blk (i := 0) rfl) rfl rfl rfl ?_))))))))
 intro w114 aI
 have aa := g.pt0 aI
 refine zf (zd (za kr (fun _ => (st (zb (v := e) rfl (st (zb (v := Iv fi) rfl (st (zl (k := 2) Tryd.isAgg42 Tryd.sizeOf42 rfl rfl (CellsAt.all (aa.blk (i := 0) rfl)) ?_)))))))))
 have hi117 : fi.toNat < d.length := bo
 refine st (zz (k := 2) (i := fi) Tryd.underlying26 Tryd.sizeOf42 rfl y.1 rfl ⟨by omega, by omega⟩ ?_)
 have aJ := aa.mv3
 have aK := aJ.emp1
 refine stn (yE (α := CelS) (j := fi.toNat) (o := 0) (u := .agg #[Iv arg, (d.getD fi.toNat default).v]) (us := [Iv arg, (d.getD fi.toNat default).v]) (x1 := (⟨arg, (d.getD fi.toNat default).v⟩ : CelS)) aK Tryd.sizeOf42 bo rfl rfl rfl (Nat.le_of_ble_eq_true rfl) (ya ⟨rfl, p.1.one, trivial⟩) (fun _ _ _ hel _ => (by rw [← zm default (by omega)] at hel; obtain ⟨rfl, hok⟩ := hel; exact ⟨rfl, ⟨harg, p.1.one⟩⟩)) ?_)
 intro ax ab
 have aL := ab.row (i := 0) rfl
 have hr122s : _ * 32 ≤ _ := aL.2
 refine zf (zd ?_)
 have aM := ab.s5_cdabe
 have ac : Sep G W ((CelW e 42 3 (c.set fi.toNat (⟨arg, (c.getD fi.toNat default).set⟩ : Cel))) :: (Blk x #[Iv arg, (d.getD fi.toNat default).v] 42) :: (Blk b2 (t.cells dt0).toArray 33) :: Rs) ax := CelW.close (i := fi.toNat) (s := (⟨arg, (d.getD fi.toNat default).v⟩ : CelS)) (c := (⟨arg, (c.getD fi.toNat default).set⟩ : Cel)) h.1 h.2 om rfl aM
 have m : c.set fi.toNat (⟨arg, (c.getD fi.toNat default).set⟩ : Cel) = doL t c fi op arg := Yk (by rw [E, dc_2]; rfl)
 rw [m] at ac
 have aN : Sep G W ((RowE (α := Cel) own 42 e (doL t c fi op arg)) :: (Blk x #[Iv arg, (d.getD fi.toNat default).v] 42) :: (Blk b2 (t.cells dt0).toArray 33) :: Rs) ax := CelW.row ac
 refine za kr (fun _ => (st (zb (v := e) rfl (st (ze (v := e) rfl (zf (zt (zO Tryd.results50 (show _ = (e : Value) from rfl) ?_))))))))
 have aO := aN.s3_a
 refine ⟨e, rfl, aO⟩
 have D := tD D
 refine zo rfl (za kr (fun _ => (st (yL rfl (st (zg (v := Iv ((d.getD fi.toNat default).n)) Tryd.isAgg3 rfl (zh (g.blk (i := 0) rfl) rfl) (st (zb (v := Iv arg) rfl (st (zV (r := IntKind.i64.wrap (((d.getD fi.toNat default).n) + arg)) (k := .i64) (a := (d.getD fi.toNat default).n) (b := arg) rfl rfl rfl (st (yL rfl (stn (yv (v := Iv (IntKind.i64.wrap (((d.getD fi.toNat default).n) + arg))) (c := [Iv ((d.getD fi.toNat default).n), (d.getD fi.toNat default).v]) (c' := [Iv (IntKind.i64.wrap (((d.getD fi.toNat default).n) + arg)), (d.getD fi.toNat default).v]) Tryd.sizeOf3 rfl rfl (g.blk (i := 0) rfl) rfl rfl rfl ?_))))))))))))))
 intro w127 aP
 have ad := g.pt0 aP
 refine zf (zd (za kr (fun _ => (st (zb (v := e) rfl (st (zb (v := Iv fi) rfl (st (zl (k := 2) Tryd.isAgg42 Tryd.sizeOf42 rfl rfl (CellsAt.all (ad.blk (i := 0) rfl)) ?_)))))))))
 have hi130 : fi.toNat < d.length := bo
 refine st (zz (k := 2) (i := fi) Tryd.underlying26 Tryd.sizeOf42 rfl y.1 rfl ⟨by omega, by omega⟩ ?_)
 have aQ := ad.mv3
 have aR := aQ.emp1
 refine stn (yE (α := CelS) (j := fi.toNat) (o := 0) (u := .agg #[Iv (IntKind.i64.wrap (((d.getD fi.toNat default).n) + arg)), (d.getD fi.toNat default).v]) (us := [Iv (IntKind.i64.wrap (((d.getD fi.toNat default).n) + arg)), (d.getD fi.toNat default).v]) (x1 := (⟨IntKind.i64.wrap (((d.getD fi.toNat default).n) + arg), (d.getD fi.toNat default).v⟩ : CelS)) aR Tryd.sizeOf42 bo rfl rfl rfl (Nat.le_of_ble_eq_true rfl) (ya ⟨rfl, p.1.one, trivial⟩) (fun _ _ _ hel _ => (by rw [← zm default (by omega)] at hel; obtain ⟨rfl, hok⟩ := hel; exact ⟨rfl, ⟨(Xi _), p.1.one⟩⟩)) ?_)
 intro ay ae
 have aS := ae.row (i := 0) rfl
 have hr135s : _ * 32 ≤ _ := aS.2
 refine zf (zd ?_)
 have aT := ae.s5_cdabe
 have af : Sep G W ((CelW e 42 3 (c.set fi.toNat (⟨IntKind.i64.wrap (((d.getD fi.toNat default).n) + arg), (c.getD fi.toNat default).set⟩ : Cel))) :: (Blk x #[Iv (IntKind.i64.wrap (((d.getD fi.toNat default).n) + arg)), (d.getD fi.toNat default).v] 42) :: (Blk b2 (t.cells dt0).toArray 33) :: Rs) ay := CelW.close (i := fi.toNat) (s := (⟨IntKind.i64.wrap (((d.getD fi.toNat default).n) + arg), (d.getD fi.toNat default).v⟩ : CelS)) (c := (⟨IntKind.i64.wrap (((d.getD fi.toNat default).n) + arg), (c.getD fi.toNat default).set⟩ : Cel)) h.1 h.2 om rfl aT
 have m : c.set fi.toNat (⟨IntKind.i64.wrap (((d.getD fi.toNat default).n) + arg), (c.getD fi.toNat default).set⟩ : Cel) = doL t c fi op arg := Yk (by rw [P, D, dc_1]; rfl)
 rw [m] at af
 have aU : Sep G W ((RowE (α := Cel) own 42 e (doL t c fi op arg)) :: (Blk x #[Iv (IntKind.i64.wrap (((d.getD fi.toNat default).n) + arg)), (d.getD fi.toNat default).v] 42) :: (Blk b2 (t.cells dt0).toArray 33) :: Rs) ay := CelW.row af
 refine za kr (fun _ => (st (zb (v := e) rfl (st (ze (v := e) rfl (zf (zt (zO Tryd.results50 (show _ = (e : Value) from rfl) ?_))))))))
 have aV := aU.s3_a
 refine ⟨e, rfl, aV⟩

end Go.Proofs.YtlblilbmpdejgaaDoor
/- Steps of the proofs of this seat: part F8. -/
set_option maxRecDepth 8000
set_option maxHeartbeats 4000000
namespace Go.Proofs.YtlblilbmpdejgaaDoor
open Go.Proofs Go.RowKit

def rJ (d : Dcl) (e : Ev) (x : Ent) : Bool := on3 (e.typ, e.agg, e.field) x && yG ((Zj d e.typ).fields.getD e.field.toNat default) x.ev e
def JB (d : Dcl) (X : List Ent) (i q : Nat) (b : Int) : Prop := (b = -1 ∧ ∀ j, q ≤ j → j < i → rJ d (X.getD i default).ev (X.getD j default) = false) ∨ ∃ j : Nat, b = (j : Int) ∧ q ≤ j ∧ j < i ∧ rJ d (X.getD i default).ev (X.getD j default) = true ∧ ∀ j', q ≤ j' → j' < j → rJ d (X.getD i default).ev (X.getD j' default) = false
theorem Zq {p : Ent → Bool} {q : Ev → Bool} : ∀ (T : List Ent), ((T.filter p).map (·.ev)).find? q = (T.find? (fun x => p x && q x.ev)).map (·.ev)
  | [] => rfl
  | x :: T => by
    have ih := Zq (p := p) (q := q) T
    rw [List.filter_cons, List.find?_cons]
    cases hp : p x with
    | false => simp [ih]
    | true =>
      simp only [if_true, List.map_cons, List.find?_cons, Bool.true_and]
      cases hq : q x.ev with
      | true => rfl
      | false => exact ih
theorem Wt {r : Ent → Bool} : ∀ {T : List Ent} {j : Nat}, j < T.length → r (T.getD j default) = true → (∀ j', j' < j → r (T.getD j' default) = false) → T.find? r = some (T.getD j default)
  | [], j, hj, _, _ => absurd hj (Nat.not_lt_zero j)
  | x :: T, 0, _, h1, _ => by have h1 : r x = true := h1; rw [List.find?_cons, h1]; rfl
  | x :: T, j + 1, hj, h1, h0 => by
    have hx : r x = false := h0 0 (Nat.succ_pos _)
    rw [List.find?_cons, hx]
    exact Wt (by simpa using hj) h1 (fun i hi => h0 (i + 1) (by omega))
theorem QB {r : Ent → Bool} {T : List Ent} (h : ∀ j, j < T.length → r (T.getD j default) = false) : T.find? r = none := by
  rw [List.find?_eq_none]
  intro x hx
  obtain ⟨i, hi, rfl⟩ := List.getElem_of_mem hx
  have := h i hi
  rw [zm _ hi] at this
  rw [this]; decide
theorem VN {d : Dcl} {l : List Ev} : ∀ {i : Nat}, i < l.length → (yn d l).getD i default = zS d ((yn d l).take i) (l.getD i default) := by
  induction l using ZE with
  | h0 => intro i hi; exact absurd hi (Nat.not_lt_zero i)
  | h1 l e ih =>
    intro i hi
    rw [xN]
    have hl := yS d l
    rw [List.length_append, List.length_singleton] at hi
    rcases Nat.lt_or_ge i l.length with h | h
    · rw [List.getD_eq_getElem?_getD, List.getElem?_append_left (by omega), ← List.getD_eq_getElem?_getD, ih h, List.take_append_of_le_length (by omega)]
      congr 1
      rw [List.getD_eq_getElem?_getD, List.getD_eq_getElem?_getD, List.getElem?_append_left h]
    · have e1 : i = l.length := by omega
      subst e1
      rw [List.getD_eq_getElem?_getD, List.getElem?_append_right (by omega), hl, Nat.sub_self, List.take_append_of_le_length (by omega), List.take_of_length_le (by omega)]
      show zS d (yn d l) e = _
      congr 1
      rw [List.getD_eq_getElem?_getD, List.getElem?_append_right (Nat.le_refl _), Nat.sub_self]; rfl
theorem QK {d : Dcl} {l : List Ev} {i : Nat} (h : i < l.length) : ((yn d l).getD i default).ev = l.getD i default := by rw [VN h]; rfl
def JR (d : Dcl) (X : List Ent) (i : Nat) (b : Int) : Prop := (¬ yJ d (X.getD i default).ev.typ (X.getD i default).ev.field (X.getD i default).ev.op (X.getD i default).ev.arg = 0 ∧ b = -1) ∨ (yJ d (X.getD i default).ev.typ (X.getD i default).ev.field (X.getD i default).ev.op (X.getD i default).ev.arg = 0 ∧ JB d X i 0 b)
theorem JR.lt {d : Dcl} {X : List Ent} {i : Nat} {b : Int} (h : JR d X i b) : -1 ≤ b ∧ b < (i : Int) := by
  rcases h with ⟨_, rfl⟩ | ⟨_, ⟨rfl, _⟩ | ⟨j, rfl, _, h2, _⟩⟩ <;> constructor <;> omega
end Go.Proofs.YtlblilbmpdejgaaDoor
/- Steps of the proofs of this seat: part F9. -/
set_option maxRecDepth 8000
set_option maxHeartbeats 4000000
namespace Go.Proofs.YtlblilbmpdejgaaDoor
open Go.Proofs Go.RowKit

end Go.Proofs.YtlblilbmpdejgaaDoor
/- Steps of the proofs of this seat: part F12. -/
set_option maxRecDepth 8000
set_option maxHeartbeats 4000000
namespace Go.Proofs.YtlblilbmpdejgaaDoor
open Go.Proofs Go.RowKit

theorem Us (d : Dcl) (l : List Ev) (n : Nat) : yn d (l.take n) = (yn d l).take n := by
  induction l using ZE with
  | h0 => rw [List.take_nil, show yn d [] = [] from rfl, List.take_nil]
  | h1 l e ih =>
    rcases Nat.lt_or_ge l.length n with h | h
    · rw [List.take_of_length_le (by rw [List.length_append, List.length_singleton]; omega), List.take_of_length_le (by rw [yS, List.length_append, List.length_singleton]; omega)]
    · rw [List.take_append_of_le_length h, ih, xN, List.take_append_of_le_length (by rw [yS]; exact h)]
end Go.Proofs.YtlblilbmpdejgaaDoor
/- Steps of the proofs of this seat: part F16. -/
set_option maxRecDepth 8000
set_option maxHeartbeats 4000000
namespace Go.Proofs.YtlblilbmpdejgaaDoor
open Go.Proofs Go.RowKit

theorem Kk {d : Dcl} {ty ag : Int} (l : List Ev) (h : ¬ zZ (ty, ag) (yn d l) = 0) : 0 ≤ ty ∧ ty < d.types.length := by
  induction l using ZE with
  | h0 => exact absurd rfl h
  | h1 l e ih =>
    rw [xN, xM] at h
    split at h
    · rename_i hx
      unfold onL at hx
      simp only [Bool.and_eq_true, Bool.not_eq_true', decide_eq_true_eq] at hx
      obtain ⟨hv, ht, ha⟩ := hx
      obtain ⟨hf, hm⟩ := Yj (d := d) (L := yn d l) (e := e) hv
      obtain ⟨f1, f2, _⟩ := Yc hf
      have ht' : e.typ = ty := ht
      subst ht'
      exact ⟨f1, f2⟩
    · exact ih h
theorem onL_raw {a b : Int} {x : Ent} : onL (a, b) x = (((!x.void) && decide (x.ev.typ = a)) && decide (x.ev.agg = b)) := by
  unfold onL; cases x.void <;> simp [Bool.and_comm, Bool.decide_and]
theorem ver_t {k : Int × Int} {L : List Ent} {j : Nat} (hj : j < L.length) (h : onL k (L.getD j default) = true) : zZ k (L.take (j + 1)) = zZ k (L.take j) + 1 := by
  have e : L.take (j + 1) = L.take j ++ [L.getD j default] := by rw [List.take_add_one, List.getElem?_eq_getElem hj, List.getD_eq_getElem?_getD, List.getElem?_eq_getElem hj]; rfl
  rw [e, xM, if_pos h]
theorem ver_f {k : Int × Int} {L : List Ent} {j : Nat} (hj : j < L.length) (h : onL k (L.getD j default) = false) : zZ k (L.take (j + 1)) = zZ k (L.take j) := by
  have e : L.take (j + 1) = L.take j ++ [L.getD j default] := by rw [List.take_add_one, List.getElem?_eq_getElem hj, List.getD_eq_getElem?_getD, List.getElem?_eq_getElem hj]; rfl
  rw [e, xM, h]; rfl
end Go.Proofs.YtlblilbmpdejgaaDoor
