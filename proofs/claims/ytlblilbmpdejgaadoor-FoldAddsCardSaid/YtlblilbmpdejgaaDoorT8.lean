import Derived.Test.YtlblilbmpdejgaaDoorT7
set_option linter.unusedSimpArgs false
set_option linter.unusedVariables false
set_option linter.unusedSectionVars false
set_option linter.deprecated false
/- Steps of the proofs of this seat: part F6. -/
set_option maxRecDepth 8000
set_option maxHeartbeats 4000000
namespace Go.Proofs.YtlblilbmpdejgaaDoor
open Go.Proofs Go.RowKit

def Ub (e : Ev) (n : Int) : Prop := (0 ≤ e.origin ∧ e.origin < n ∧ (e.deps.length : Int) = n ∧ 1 ≤ e.seq) ∧ ∀ i, i < e.deps.length → 0 ≤ e.deps.getD i 0
theorem UI {α : Type} [Inhabited α] {P : α → Prop} {l : List α} {x : α} (h : ∀ i, i < l.length → P (l.getD i default)) (hx : P x) : ∀ i, i < (l ++ [x]).length → P ((l ++ [x]).getD i default) := by
  intro i hi
  rcases Nat.lt_or_ge i l.length with h1 | h1
  · have e : (l ++ [x]).getD i default = l.getD i default := by rw [List.getD_eq_getElem?_getD, List.getD_eq_getElem?_getD, List.getElem?_append_left h1]
    rw [e]; exact h i h1
  · have e : i = l.length := by rw [List.length_append, List.length_singleton] at hi; omega
    subst e
    rw [List.getD_eq_getElem?_getD, List.getElem?_append_right (Nat.le_refl _), Nat.sub_self]; exact hx
theorem Kd {G : Nat → Prop} {W w : World} {Rs : List HP} {d : Dcl} {dd0 : Value} (hdd0 : RdS W G dd0 d.types) {dd1 : Value} (hdd1 : RdS W G dd1 d.projs) (od : d.Ok) (hS0 : Sep G W Rs w) : Ret Tryd.prog 20 [.agg (d.cells dd0 dd1).toArray] w (fun r w' => ∃ (b : Bool), r = (.bool b : Value) ∧ (b = true → DclOk d) ∧ Sep G W Rs w') := by
 have hdd0s : _ * 24 ≤ _ := hdd0.small
 have hdd1s : _ * 40 ≤ _ := hdd1.small
 refine zr (args := [.agg (d.cells dd0 dd1).toArray]) Tryd.func20 rfl rfl ?_
 refine zd (za kr (fun _ => (st (zT (v := .agg (d.cells dd0 dd1).toArray) rfl ?_))))
 intro w3 b2 q
 have j := hS0.new q
 refine st (ze (v := .bool false) rfl (zf (zd (zF kr (st (zl (k := 2) Tryd.isAgg25 Tryd.sizeOf25 rfl rfl (CellsAt.all (j.blk (i := 0) rfl)) (st (zu (f := 45) (vals := [.agg (d.cells dd0 dd1).toArray]) (cap := []) rfl rfl Tryd.call45 (KH (d := d) hdd0 hdd1 od j) ?_))))))))
 rintro _ w6 ⟨l, rfl, g⟩
 refine st (yt (a := l) rfl (st (zb (v := .bool (!l)) rfl (stc (V := .agg (d.cells dd0 dd1).toArray) rfl rfl (fun s => ?_) ?_))))
 have t := s
 try simp only [zj] at t
 exact zl (k := 2) Tryd.isAgg25 Tryd.sizeOf25 rfl rfl (CellsAt.all (g.blk (i := 0) rfl)) ⟨rfl, rfl⟩
 cases e : !l
 have hg10r := e
 try simp only [zj] at e
 refine stx rfl rfl (stx rfl rfl (st (yg (v := .bool false) rfl rfl (st (ze (v := .bool false) rfl (zf (zt (zO Tryd.results20 (show _ = (.bool false : Value) from rfl) ?_))))))))
 have m := g.s1_
 refine ⟨false, rfl, ?_, m⟩
 intro n
 cases n
 try simp only [zj] at e
 refine sty rfl rfl (zu (f := 46) (vals := [.agg (d.cells dd0 dd1).toArray]) (cap := []) rfl rfl Tryd.call46 (Ks (d := d) hdd0 hdd1 od g) ?_)
 rintro _ w15 ⟨c, rfl, hin13, h, o⟩
 refine sty rfl rfl (zP (k := .i64) (a := c) (b := 0) rfl rfl (st (zX (v := .bool (decide (c = 0))) rfl rfl (st (ze (v := .bool (decide (c = 0))) rfl (zf (zt (zO Tryd.results20 (show _ = (.bool (decide (c = 0)) : Value) from rfl) ?_))))))))
 have p := o.s1_
 refine ⟨decide (c = 0), rfl, ?_, p⟩
 intro n
 exact h (by simpa using n)

theorem Vm {d : Option Tmp} {ty : TypeId} {pos : String} {af : Array Edge} {g : Option (Nat × Bool)} {σ : Env} {w : World} {K : Value → World → Prop} {x : Operand} {b o : Nat} (hx : ev σ x = .pointer (some ⟨b, o, none⟩)) (h : K (.pointer (some ⟨b, o + 2, none⟩)) w) : opV Tryd.prog ⟨d, .fieldAddr 59 x 1, ty, pos, af, g⟩ σ w K := zA Tryd.underlying59 rfl rfl (fun w => ⟨0, Tryd.sizeOf3 w⟩) hx h
theorem Vk {d : Option Tmp} {ty : TypeId} {pos : String} {af : Array Edge} {g : Option (Nat × Bool)} {σ : Env} {w : World} {K : Value → World → Prop} {x : Operand} {b o : Nat} (hx : ev σ x = .pointer (some ⟨b, o, none⟩)) (h : K (.pointer (some ⟨b, o + 9, none⟩)) w) : opV Tryd.prog ⟨d, .fieldAddr 59 x 8, ty, pos, af, g⟩ σ w K := zA Tryd.underlying59 rfl rfl (fun w => ⟨0, Tryd.sizeOf3 w⟩) hx h
theorem QJ {G : Nat → Prop} {W w : World} {Rs : List HP} {e : Ev} {de0 : Value} (hde0 : RdS W G de0 e.deps) (oe : e.Ok) {n : Int} (hn : InR n) (hS0 : Sep G W Rs w) : Ret Tryd.prog 55 [.agg (e.cells de0).toArray, .int .i64 (n)] w (fun r w' => ∃ (c : Int), r = (.int .i64 (c) : Value) ∧ (InR c) ∧ (c = 0 → Ub e n) ∧ Sep G W Rs w') := by
 have hde0s : _ * 8 ≤ _ := hde0.small
 refine zr (args := [.agg (e.cells de0).toArray, Iv n]) Tryd.func55 rfl rfl ?_
 refine zd (za kr (fun _ => (st (zT (v := .agg (e.cells de0).toArray) rfl ?_))))
 intro w3 b2 bC
 have f := hS0.new bC
 refine st (ze (v := Iv 0) rfl (zf (zd (zd (zF kr (st (yM rfl (st (ZO rfl (st (zg (v := Iv (e.origin)) Tryd.isAgg3 rfl (zh (f.blk (i := 0) rfl) rfl) (st (zL (k := .i64) (a := e.origin) (b := 0) rfl rfl (st (zb (v := .bool (decide (e.origin < 0))) rfl (stc (V := Ix b2 0) rfl rfl (fun bD => ?_) ?_))))))))))))))))
 have aV := bD
 have aV := fD aV
 exact yM rfl ⟨rfl, rfl⟩
 refine stc (V := Ix b2 0) rfl rfl (fun aW => ?_) ?_
 have aX := aW
 have aX := fD aX
 exact ZO (show _ = (Ix b2 0 : Value) from (if_pos aW)) ⟨rfl, rfl⟩
 refine stc (V := Iv (e.origin)) rfl rfl (fun aY => ?_) ?_
 have S := aY
 have S := fD S
 exact zg (v := Iv (e.origin)) Tryd.isAgg3 (show _ = (Ix b2 0 : Value) from (if_pos aY)) (zh (f.blk (i := 0) rfl) rfl) ⟨rfl, rfl⟩
 refine stc (V := Iv n) rfl rfl (fun aZ => ?_) ?_
 have T := aZ
 have T := fD T
 exact zb (v := Iv n) rfl ⟨rfl, rfl⟩
 refine stc (V := .bool (decide (n ≤ e.origin))) rfl rfl (fun u => ?_) ?_
 have U := u
 have U := fD U
 exact yY (k := .i64) (a := e.origin) (b := n) (show _ = (Iv (e.origin) : Value) from (if_pos u)) (show _ = (Iv n : Value) from (if_pos u)) ⟨rfl, rfl⟩
 refine st (zG (b := decide (e.origin < 0)) (b' := decide (n ≤ e.origin)) rfl (fun hbp => (show _ = (.bool (decide (n ≤ e.origin)) : Value) from (if_pos hbp))) (st (zb (v := .bool ((decide (e.origin < 0)) || (decide (n ≤ e.origin)))) rfl (stc (V := Ix b2 0) rfl rfl (fun ba => ?_) ?_))))
 have bb := ba
 try simp only [zj] at bb
 exact yM rfl ⟨rfl, rfl⟩
 refine stc (V := Ix b2 1) rfl rfl (fun X => ?_) ?_
 have bc := X
 try simp only [zj] at bc
 exact Yl (show _ = (Ix b2 0 : Value) from (if_pos X)) ⟨rfl, rfl⟩
 refine stc (V := Iv (e.seq)) rfl rfl (fun Y => ?_) ?_
 have bd := Y
 try simp only [zj] at bd
 exact zg (v := Iv (e.seq)) Tryd.isAgg3 (show _ = (Ix b2 1 : Value) from (if_pos Y)) (zh (f.blk (i := 0) rfl) rfl) ⟨rfl, rfl⟩
 refine stc (V := .bool (decide (e.seq < 1))) rfl rfl (fun Z => ?_) ?_
 have be := Z
 try simp only [zj] at be
 exact zL (k := .i64) (a := e.seq) (b := 1) (show _ = (Iv (e.seq) : Value) from (if_pos Z)) rfl ⟨rfl, rfl⟩
 refine st (zG (b := (decide (e.origin < 0)) || (decide (n ≤ e.origin))) (b' := decide (e.seq < 1)) rfl (fun hbp => (show _ = (.bool (decide (e.seq < 1)) : Value) from (if_pos hbp))) (st (zb (v := .bool (((decide (e.origin < 0)) || (decide (n ≤ e.origin))) || (decide (e.seq < 1)))) rfl (stc (V := Ix b2 2) rfl rfl (fun bf => ?_) ?_))))
 have bg := bf
 try simp only [zj] at bg
 exact Vm rfl ⟨rfl, rfl⟩
 refine stc (V := Iv (e.lam)) rfl rfl (fun aa => ?_) ?_
 have bh := aa
 try simp only [zj] at bh
 exact zg (v := Iv (e.lam)) Tryd.isAgg3 (show _ = (Ix b2 2 : Value) from (if_pos aa)) (zh (f.blk (i := 0) rfl) rfl) ⟨rfl, rfl⟩
 refine stc (V := .bool (decide (e.lam < 1))) rfl rfl (fun ab => ?_) ?_
 have bi := ab
 try simp only [zj] at bi
 exact zL (k := .i64) (a := e.lam) (b := 1) (show _ = (Iv (e.lam) : Value) from (if_pos ab)) rfl ⟨rfl, rfl⟩
 refine st (zG (b := ((decide (e.origin < 0)) || (decide (n ≤ e.origin))) || (decide (e.seq < 1))) (b' := decide (e.lam < 1)) rfl (fun hbp => (show _ = (.bool (decide (e.lam < 1)) : Value) from (if_pos hbp))) (st (zb (v := .bool ((((decide (e.origin < 0)) || (decide (n ≤ e.origin))) || (decide (e.seq < 1))) || (decide (e.lam < 1)))) rfl (stc (V := Ix b2 5) rfl rfl (fun bj => ?_) ?_))))
 have bk := bj
 try simp only [zj] at bk
 exact xZ rfl ⟨rfl, rfl⟩
 refine stc (V := Iv (e.agg)) rfl rfl (fun ac => ?_) ?_
 have bl := ac
 try simp only [zj] at bl
 exact zg (v := Iv (e.agg)) Tryd.isAgg3 (show _ = (Ix b2 5 : Value) from (if_pos ac)) (zh (f.blk (i := 0) rfl) rfl) ⟨rfl, rfl⟩
 refine stc (V := .bool (decide (e.agg < 0))) rfl rfl (fun ad => ?_) ?_
 have bm := ad
 try simp only [zj] at bm
 exact zL (k := .i64) (a := e.agg) (b := 0) (show _ = (Iv (e.agg) : Value) from (if_pos ad)) rfl ⟨rfl, rfl⟩
 refine st (zG (b := (((decide (e.origin < 0)) || (decide (n ≤ e.origin))) || (decide (e.seq < 1))) || (decide (e.lam < 1))) (b' := decide (e.agg < 0)) rfl (fun hbp => (show _ = (.bool (decide (e.agg < 0)) : Value) from (if_pos hbp))) (st (zb (v := .bool (((((decide (e.origin < 0)) || (decide (n ≤ e.origin))) || (decide (e.seq < 1))) || (decide (e.lam < 1))) || (decide (e.agg < 0)))) rfl (stc (V := Ix b2 9) rfl rfl (fun bn => ?_) ?_))))
 have bp := bn
 try simp only [zj] at bp
 exact Vk rfl ⟨rfl, rfl⟩
 refine stc (V := Iv (e.key)) rfl rfl (fun ae => ?_) ?_
 have bq := ae
 try simp only [zj] at bq
 exact zg (v := Iv (e.key)) Tryd.isAgg3 (show _ = (Ix b2 9 : Value) from (if_pos ae)) (zh (f.blk (i := 0) rfl) rfl) ⟨rfl, rfl⟩
 refine stc (V := .bool (decide (e.key < 0))) rfl rfl (fun af => ?_) ?_
 have br := af
 try simp only [zj] at br
 exact zL (k := .i64) (a := e.key) (b := 0) (show _ = (Iv (e.key) : Value) from (if_pos af)) rfl ⟨rfl, rfl⟩
 refine st (zG (b := ((((decide (e.origin < 0)) || (decide (n ≤ e.origin))) || (decide (e.seq < 1))) || (decide (e.lam < 1))) || (decide (e.agg < 0))) (b' := decide (e.key < 0)) rfl (fun hbp => (show _ = (.bool (decide (e.key < 0)) : Value) from (if_pos hbp))) (st (zb (v := .bool ((((((decide (e.origin < 0)) || (decide (n ≤ e.origin))) || (decide (e.seq < 1))) || (decide (e.lam < 1))) || (decide (e.agg < 0))) || (decide (e.key < 0)))) rfl (stc (V := Ix b2 3) rfl rfl (fun bs => ?_) ?_))))
 have bt := bs
 try simp only [zj] at bt
 exact xm rfl ⟨rfl, rfl⟩
 refine stc (V := de0) rfl rfl (fun ag => ?_) ?_
 have bu := ag
 try simp only [zj] at bu
 exact zg (v := de0) Tryd.isAgg40 (show _ = (Ix b2 3 : Value) from (if_pos ag)) (zh (f.blk (i := 0) rfl) rfl) ⟨rfl, rfl⟩
 refine stc (V := Iw e.deps.length) rfl rfl (fun ah => ?_) ?_
 have bv := ah
 try simp only [zj] at bv
 exact zJ (n := e.deps.length) Tryd.underlying40 (show _ = (de0 : Value) from (if_pos ah)) hde0.sl ⟨rfl, rfl⟩
 refine stc (V := Iv n) rfl rfl (fun bw => ?_) ?_
 have bx := bw
 try simp only [zj] at bx
 exact zb (v := Iv n) rfl ⟨rfl, rfl⟩
 refine stc (V := .bool (!decide (((e.deps.length : Nat) : Int) = n))) rfl rfl (fun x => ?_) ?_
 have bz := x
 try simp only [zj] at bz
 exact yq (k := .i64) (a := ((e.deps.length : Nat) : Int)) (b := n) (show _ = (Iw e.deps.length : Value) from (if_pos x)) (show _ = (Iv n : Value) from (if_pos x)) ⟨rfl, rfl⟩
 refine st (zG (b := (((((decide (e.origin < 0)) || (decide (n ≤ e.origin))) || (decide (e.seq < 1))) || (decide (e.lam < 1))) || (decide (e.agg < 0))) || (decide (e.key < 0))) (b' := !decide (((e.deps.length : Nat) : Int) = n)) rfl (fun hbp => (show _ = (.bool (!decide (((e.deps.length : Nat) : Int) = n)) : Value) from (if_pos hbp))) (zf ?_))
 cases ai : ((((((decide (e.origin < 0)) || (decide (n ≤ e.origin))) || (decide (e.seq < 1))) || (decide (e.lam < 1))) || (decide (e.agg < 0))) || (decide (e.key < 0))) || (!decide (((e.deps.length : Nat) : Int) = n))
 try simp only [zj] at ai
 refine zn rfl (zv (zd (zd (za kr (fun _ => (st (ze (v := Iv 0) rfl (zf (zw (yd (fun mq σ wq => ∃ (k : Nat) (ρ : Env), mq = e.deps.length - k ∧ σ = yh ρ [(1, Iv n), (2, Ix b2 0), (5, Iw k)] ∧ (k ≤ e.deps.length) ∧ (∀ i, i < k → 0 ≤ e.deps.getD i 0) ∧ Sep G W ((Blk b2 (e.cells de0).toArray 59) :: Rs) wq) ⟨0, _, rfl, zq ⟨rfl, rfl, rfl, trivial⟩, Nat.zero_le _, (fun i h => absurd h (Nat.not_lt_zero i)), f⟩ ?_))))))))))
 rintro m53 σ54 w52 ⟨k, ρl1, rfl, rfl, hkk, hm, m⟩
 refine zd (zd (za kr (fun _ => (st (zb (v := Iw k) rfl (st (zb (v := Iv n) rfl (st (zL (k := .i64) (a := ((k : Nat) : Int)) (b := n) rfl rfl (zf ?_))))))))))
 cases o : decide (((k : Nat) : Int) < n)
 have o := fD o
 refine zn rfl (yc (zU (zd (zd (WD4 (WF [fun vals wq => Sep G W ((Blk b2 (e.cells de0).toArray 59) :: Rs) wq]) (AF [Vl 0 (Ix b2 3), Vl 1 (de0), Vl 2 (Ix b2 0), Vl 3 (Ix b2 0), Vl 4 (Iv (e.origin)), Vl 5 (Ix (sb de0) (so de0 + e.origin.toNat * 1)), Vl 6 (Iv ((e.deps.getD e.origin.toNat 0))), Vl 7 (Ix b2 0), Vl 8 (Ix b2 1), Vl 9 (Iv (e.seq)), Vl 10 (Iv (e.seq - 1)), Vl 11 (.bool (!decide ((e.deps.getD e.origin.toNat 0) = (e.seq - 1))))]) [[], [0], [], [2], [2, 3], (rg 5), (rg 6), [], [7], [7, 8], [7, 8, 9], (rg 11)] [] [(0, 0), (0, 0), (0, 0), (0, 0), (0, 0), (0, 0), (0, 0), (0, 0), (0, 0), (0, 0), (0, 0), (0, 0)] m ⟨?_, ?_, ?_, ?_, ?_, ?_, ?_, ?_, ?_, ?_, ?_, ?_, trivial⟩ ?_)))))
 exact fun _ _ _ _ _ _ _ => obl rfl (xm rfl dR)
 exact ob1 0 fun _ _ (an : Sep _ _ _ _) ao => obl rfl (zg (v := de0) Tryd.isAgg40 (ao 0 dc) (zh (an.blk (i := 0) rfl) rfl) dR)
 exact fun _ _ _ _ _ _ _ => obl rfl (yM rfl dR)
 exact fun _ _ _ _ _ _ ap => obl rfl (ZO (ap 2 dc) dR)
 exact ob1 0 fun _ _ (aq : Sep _ _ _ _) ar => obl rfl (zg (v := Iv (e.origin)) Tryd.isAgg3 (ar 3 dc) (zh (aq.blk (i := 0) rfl) rfl) dR)
 refine ob1 0 fun _ _ _ y => (obl rfl ?_)
 have hi196 : e.origin.toNat < e.deps.length := bo
 exact zz (k := 1) (i := e.origin) Tryd.underlying40 Tryd.sizeOf3 (y 1 dc) hde0.sl (y 4 dc) ⟨by omega, by omega⟩ dR
 refine ob1 0 fun _ _ (au : Sep _ _ _ _) av => (obl rfl ?_)
 have p : e.origin.toNat < e.deps.length := bo
 obtain ⟨s, aj⟩ := hde0.int p
 rw [← zm 0 p] at s aj
 have ak := au.cells s (hde0.foot (ne_of_lt p))
 exact zg (v := Iv ((e.deps.getD e.origin.toNat 0))) Tryd.isAgg3 (av 5 dc) (ak.get (j := 0) rfl) dR
 exact fun _ _ _ _ _ _ _ => obl rfl (yM rfl dR)
 exact fun _ _ _ _ _ _ aw => obl rfl (Yl (aw 7 dc) dR)
 exact ob1 0 fun _ _ (ax : Sep _ _ _ _) ay => obl rfl (zg (v := Iv (e.seq)) Tryd.isAgg3 (ay 8 dc) (zh (ax.blk (i := 0) rfl) rfl) dR)
 refine ob1 0 fun _ _ _ az => (obl rfl ?_)
 have aA : InR (e.seq - 1) := (by have R := oe.seq; omega)
 exact Wd (r := e.seq - 1) (k := .i64) (a := e.seq) (b := 1) (az 9 (by decide)) rfl (by rw [show (e.seq - 1 : Int) = e.seq - 1 from rfl]; exact zM aA) dR
 exact ob1 0 fun _ _ _ z => obl rfl (yq (k := .i64) (a := (e.deps.getD e.origin.toNat 0)) (b := e.seq - 1) (z 6 dc) (z 10 dc) dR)
 intro vals w247 aB aC
 have d : Sep _ _ _ _ := aB
 have bB := aC 11 dc
 refine yf (kv := [(1, Iv n), (2, Ix b2 0), (5, Iw k), (45, Iw k), (46, Iv n), (47, .bool false), (67, .bool (!decide ((e.deps.getD e.origin.toNat 0) = (e.seq - 1))))]) ⟨rfl, rfl, rfl, rfl, rfl, rfl, (by exact bB), trivial⟩ (fun ρw247 => (zf ?_))
 cases g : !decide ((e.deps.getD e.origin.toNat 0) = (e.seq - 1))
 have g := zC g
 refine zn rfl (zv (zd (zd (zF kr (st (xo rfl (st (zg (v := Iv (e.op)) Tryd.isAgg3 rfl (zh (d.blk (i := 0) rfl) rfl) (st (zL (k := .i64) (a := e.op) (b := 1) rfl rfl (st (zb (v := .bool (decide (e.op < 1))) rfl (stc (V := Ix b2 7) rfl rfl (fun aD => ?_) ?_)))))))))))))
 have A := aD
 have A := fD A
 exact xo rfl ⟨rfl, rfl⟩
 refine stc (V := Iv (e.op)) rfl rfl (fun B => ?_) ?_
 have C := B
 have C := fD C
 exact zg (v := Iv (e.op)) Tryd.isAgg3 (show _ = (Ix b2 7 : Value) from (if_pos B)) (zh (d.blk (i := 0) rfl) rfl) ⟨rfl, rfl⟩
 refine stc (V := .bool (decide (5 < e.op))) rfl rfl (fun D => ?_) ?_
 have E := D
 have E := fD E
 exact yT (k := .i64) (a := e.op) (b := 5) (show _ = (Iv (e.op) : Value) from (if_pos D)) rfl ⟨rfl, rfl⟩
 refine st (zG (b := decide (e.op < 1)) (b' := decide (5 < e.op)) rfl (fun hbp => (show _ = (.bool (decide (5 < e.op)) : Value) from (if_pos hbp))) (zf ?_))
 cases F : (decide (e.op < 1)) || (decide (5 < e.op))
 try simp only [zj] at F
 refine zn rfl (zv (zd (zd (zF kr (st (xa rfl (st (zg (v := Iv (e.typ)) Tryd.isAgg3 rfl (zh (d.blk (i := 0) rfl) rfl) (st (zL (k := .i64) (a := e.typ) (b := 0) rfl rfl (st (zb (v := .bool (decide (e.typ < 0))) rfl (stc (V := Ix b2 4) rfl rfl (fun aE => ?_) ?_)))))))))))))
 have H := aE
 have H := fD H
 exact xa rfl ⟨rfl, rfl⟩
 refine stc (V := Iv (e.typ)) rfl rfl (fun I => ?_) ?_
 have J := I
 have J := fD J
 exact zg (v := Iv (e.typ)) Tryd.isAgg3 (show _ = (Ix b2 4 : Value) from (if_pos I)) (zh (d.blk (i := 0) rfl) rfl) ⟨rfl, rfl⟩
 refine stc (V := .bool (decide (7 < e.typ))) rfl rfl (fun K => ?_) ?_
 have L := K
 have L := fD L
 exact yT (k := .i64) (a := e.typ) (b := 7) (show _ = (Iv (e.typ) : Value) from (if_pos K)) rfl ⟨rfl, rfl⟩
 refine st (zG (b := decide (e.typ < 0)) (b' := decide (7 < e.typ)) rfl (fun hbp => (show _ = (.bool (decide (7 < e.typ)) : Value) from (if_pos hbp))) (st (zb (v := .bool ((decide (e.typ < 0)) || (decide (7 < e.typ)))) rfl (stc (V := Ix b2 6) rfl rfl (fun aF => ?_) ?_))))
 have aG := aF
 try simp only [zj] at aG
 exact xj rfl ⟨rfl, rfl⟩
 refine stc (V := Iv (e.field)) rfl rfl (fun M => ?_) ?_
 have aH := M
 try simp only [zj] at aH
 exact zg (v := Iv (e.field)) Tryd.isAgg3 (show _ = (Ix b2 6 : Value) from (if_pos M)) (zh (d.blk (i := 0) rfl) rfl) ⟨rfl, rfl⟩
 refine stc (V := .bool (decide (e.field < 0))) rfl rfl (fun N => ?_) ?_
 have aI := N
 try simp only [zj] at aI
 exact zL (k := .i64) (a := e.field) (b := 0) (show _ = (Iv (e.field) : Value) from (if_pos N)) rfl ⟨rfl, rfl⟩
 refine st (zG (b := (decide (e.typ < 0)) || (decide (7 < e.typ))) (b' := decide (e.field < 0)) rfl (fun hbp => (show _ = (.bool (decide (e.field < 0)) : Value) from (if_pos hbp))) (st (zb (v := .bool (((decide (e.typ < 0)) || (decide (7 < e.typ))) || (decide (e.field < 0)))) rfl (stc (V := Ix b2 6) rfl rfl (fun aJ => ?_) ?_))))
 have aK := aJ
 try simp only [zj] at aK
 exact xj rfl ⟨rfl, rfl⟩
 refine stc (V := Iv (e.field)) rfl rfl (fun O => ?_) ?_
 have aL := O
 try simp only [zj] at aL
 exact zg (v := Iv (e.field)) Tryd.isAgg3 (show _ = (Ix b2 6 : Value) from (if_pos O)) (zh (d.blk (i := 0) rfl) rfl) ⟨rfl, rfl⟩
 refine stc (V := .bool (decide (7 < e.field))) rfl rfl (fun P => ?_) ?_
 have aM := P
 try simp only [zj] at aM
 exact yT (k := .i64) (a := e.field) (b := 7) (show _ = (Iv (e.field) : Value) from (if_pos P)) rfl ⟨rfl, rfl⟩
 refine st (zG (b := ((decide (e.typ < 0)) || (decide (7 < e.typ))) || (decide (e.field < 0))) (b' := decide (7 < e.field)) rfl (fun hbp => (show _ = (.bool (decide (7 < e.field)) : Value) from (if_pos hbp))) (zf ?_))
 cases Q : (((decide (e.typ < 0)) || (decide (7 < e.typ))) || (decide (e.field < 0))) || (decide (7 < e.field))
 try simp only [zj] at Q
 refine zn rfl (zv (zd (za kr (fun _ => (st (ze (v := Iv 0) rfl (zf (zt (zO Tryd.results55 (show _ = (Iv 0 : Value) from rfl) ?_)))))))))
 have aN := d.s1_
 refine ⟨0, rfl, ?_, ?_, aN⟩
 decide
 intro R
 exact ⟨⟨by omega, by omega, by omega, by omega⟩, fun i hi => hm i om⟩
 try simp only [zj] at Q
 refine zo rfl (zd (za kr (fun _ => (st (ze (v := Iv 8) rfl (zf (zt (zO Tryd.results55 (show _ = (Iv 8 : Value) from rfl) ?_))))))))
 have aO := d.s1_
 refine ⟨8, rfl, ?_, ?_, aO⟩
 decide
 intro R
 omega
 try simp only [zj] at F
 refine zo rfl (zd (za kr (fun _ => (st (ze (v := Iv 2) rfl (zf (zt (zO Tryd.results55 (show _ = (Iv 2 : Value) from rfl) ?_))))))))
 have aP := d.s1_
 refine ⟨2, rfl, ?_, ?_, aP⟩
 decide
 intro R
 omega
 have g := zR g
 refine zo rfl (zd (za kr (fun _ => (st (ze (v := Iv 9) rfl (zf (zt (zO Tryd.results55 (show _ = (Iv 9 : Value) from rfl) ?_))))))))
 have aQ := d.s1_
 refine ⟨9, rfl, ?_, ?_, aQ⟩
 decide
 intro R
 omega
 have o := tD o
 refine zo rfl (zv (zd (zw (zd (za kr (fun _ => (st (xm rfl (st (zg (v := de0) Tryd.isAgg40 rfl (zh (m.blk (i := 0) rfl) rfl) (st (zb (v := Iw k) rfl ?_))))))))))))
 have aR : k < e.deps.length := bo
 refine st (zk (k := 1) (i := k) Tryd.underlying40 Tryd.sizeOf3 rfl hde0.sl rfl aR ?_)
 have q : k < e.deps.length := bo
 obtain ⟨t, al⟩ := hde0.int q
 rw [← zm 0 q] at t al
 have am := m.cells t (hde0.foot (ne_of_lt q))
 refine st (zg (v := Iv ((e.deps.getD k 0))) Tryd.isAgg3 rfl (am.get (j := 0) rfl) (st (zL (k := .i64) (a := (e.deps.getD k 0)) (b := 0) rfl rfl (zf ?_))))
 cases l : decide ((e.deps.getD k 0) < 0)
 have l := fD l
 refine zn rfl (zv (za kr (fun _ => (st (zb (v := Iw k) rfl ?_)))))
 have aS : InR ((k + 1 : Nat) : Int) := bo
 refine st (zV (r := ((k + 1 : Nat) : Int)) (k := .i64) (a := ((k : Nat) : Int)) (b := 1) rfl rfl (by rw [show (((k : Nat) : Int) + 1 : Int) = ((k + 1 : Nat) : Int) from bo]; exact zM aS) (st (ze (v := Iw (k + 1)) rfl (zf ?_))))
 exact ⟨_, by omega, k + 1, _, rfl, zq ⟨rfl, rfl, rfl, trivial⟩, by omega, (yW hm om), m⟩
 have l := tD l
 refine zo rfl (zd (za kr (fun _ => (st (ze (v := Iv 1) rfl (zf (zt (zO Tryd.results55 (show _ = (Iv 1 : Value) from rfl) ?_))))))))
 have aT := m.s1_
 refine ⟨1, rfl, ?_, ?_, aT⟩
 decide
 intro R
 omega
 try simp only [zj] at ai
 refine zo rfl (zd (za kr (fun _ => (st (ze (v := Iv 1) rfl (zf (zt (zO Tryd.results55 (show _ = (Iv 1 : Value) from rfl) ?_))))))))
 have aU := f.s1_
 refine ⟨1, rfl, ?_, ?_, aU⟩
 decide
 intro R
 omega

theorem UO {G : Nat → Prop} {W w : World} {Rs : List HP} {n : Int} (hn : InR n) {vl : Value} {l : List Ev} (hl : RdS W G vl l) (hS0 : Sep G W Rs w) : Ret Tryd.prog 22 [.int .i64 (n), vl] w (fun r w' => ∃ (v : Value) (l2 : List Ev), r = (v : Value) ∧ (l2.length ≤ 60) ∧ (∀ i, i < l2.length → Ub (l2.getD i default) n) ∧ Sep G W ((RowE (α := Ev) (shr G W) 59 v l2) :: Rs) w') := by
 have hls : _ * 96 ≤ _ := hl.small
 refine zr (args := [Iv n, vl]) Tryd.func22 rfl rfl ?_
 refine zd (za kr (fun _ => (st (ze (v := (Iz)) rfl (zf (zd (za kr (fun _ => (st (ze (v := (Iz)) rfl (zf (zd (zd (za kr (fun _ => (st (ze (v := Iv 0) rfl (zf (zw ?_)))))))))))))))))))
 have al : Sep G W ((RowE (α := Ev) (shr G W) 59 (Iz) ([] : List Ev)) :: Rs) w := hS0.rowNil (shr G W) 59
 refine yd (fun mq σ wq => ∃ (k : Nat) (vo : Value) (l2 : List Ev) (ρ : Env), mq = l.length - k ∧ σ = yh ρ [(0, Iv n), (1, vl), (5, vo), (6, Iw k)] ∧ (k ≤ l.length) ∧ (l2.length ≤ 60) ∧ (∀ i, i < l2.length → Ub (l2.getD i default) n) ∧ Sep G W ((RowE (α := Ev) (shr G W) 59 vo l2) :: Rs) wq) ⟨0, (Iz), [], _, rfl, zq ⟨rfl, rfl, rfl, rfl, trivial⟩, Nat.zero_le _, Nat.zero_le _, (fun i h => absurd h (Nat.not_lt_zero i)), al⟩ ?_
 rintro m3 σ4 w2 ⟨k, vo, l2, ρl1, rfl, rfl, hkk, x, hft, q⟩
 have S := q.row (i := 0) rfl
 have hr6s : _ * 96 ≤ _ := S.2
 refine zd (zd (zF kr (st (zb (v := Iw k) rfl (st (zb (v := vl) rfl (st (zJ (n := l.length) Tryd.underlying47 rfl hl.sl (st (zL (k := .i64) (a := ((k : Nat) : Int)) (b := ((l.length : Nat) : Int)) rfl rfl (st (zb (v := .bool (decide (((k : Nat) : Int) < ((l.length : Nat) : Int)))) rfl (stc (V := vo) rfl rfl (fun am => ?_) ?_)))))))))))))
 have T := am
 have T := tD T
 exact zb (v := vo) rfl ⟨rfl, rfl⟩
 refine stc (V := Iw l2.length) rfl rfl (fun U => ?_) ?_
 have y := U
 have y := tD y
 exact zJ (n := l2.length) Tryd.underlying47 (show _ = (vo : Value) from (if_pos U)) S.1 ⟨rfl, rfl⟩
 refine stc (V := .bool (decide (((l2.length : Nat) : Int) < 60))) rfl rfl (fun z => ?_) ?_
 have A := z
 have A := tD A
 exact zL (k := .i64) (a := ((l2.length : Nat) : Int)) (b := 60) (show _ = (Iw l2.length : Value) from (if_pos z)) rfl ⟨rfl, rfl⟩
 refine st (zx (b := decide (((k : Nat) : Int) < ((l.length : Nat) : Int))) (b' := decide (((l2.length : Nat) : Int) < 60)) rfl (fun hbp => (show _ = (.bool (decide (((l2.length : Nat) : Int) < 60)) : Value) from (if_pos hbp))) (zf ?_))
 cases B : (decide (((k : Nat) : Int) < ((l.length : Nat) : Int))) && (decide (((l2.length : Nat) : Int) < 60))
 try simp only [zj] at B
 refine zn rfl (yc (zU (zd (za kr (fun _ => (st (zb (v := vo) rfl (st (ze (v := vo) rfl (zf (zt (zO Tryd.results22 (show _ = (vo : Value) from rfl) ?_))))))))))))
 refine ⟨vo, l2, rfl, ?_, ?_, q⟩
 exact x
 exact hft
 try simp only [zj] at B
 refine zo rfl (zv (zd (zw (zd (zF kr (st (zb (v := vl) rfl (st (zb (v := Iw k) rfl ?_)))))))))
 have Y : k < l.length := bo
 refine st (zk (k := 10) (i := k) Tryd.underlying47 Tryd.sizeOf59 rfl hl.sl rfl Y (st (xm rfl ?_)))
 have m : k < l.length := bo
 obtain ⟨g, d, o⟩ := hl.ev m
 rw [← zm default m] at g d o
 have hsm17 : ((l.getD k default).deps).length * 8 ≤ 140737488355328 := d.small
 have M := q.cells g (hl.foot (ne_of_lt m))
 refine st (zg (v := (zi W (sb vl) (so vl + k * 10 + 3))) Tryd.isAgg40 rfl (M.get (j := 3) rfl) (st (zJ (n := ((l.getD k default).deps).length) Tryd.underlying40 rfl d.sl (st (zb (v := Iv n) rfl (st (zP (k := .i64) (a := ((((l.getD k default).deps).length : Nat) : Int)) (b := n) rfl rfl (st (zb (v := .bool (decide (((((l.getD k default).deps).length : Nat) : Int) = n))) rfl (stc (V := vl) rfl rfl (fun Z => ?_) ?_))))))))))
 have C := Z
 have C := tD C
 exact zb (v := vl) rfl ⟨rfl, rfl⟩
 refine stc (V := Iw k) rfl rfl (fun aa => ?_) ?_
 have D := aa
 have D := tD D
 exact zb (v := Iw k) rfl ⟨rfl, rfl⟩
 refine stc (V := Ix (sb vl) (so vl + k * 10)) rfl rfl (fun t => ?_) ?_
 have E := t
 have E := tD E
 have ab : k < l.length := bo
 exact zk (k := 10) (i := k) Tryd.underlying47 Tryd.sizeOf59 (show _ = (vl : Value) from (if_pos t)) hl.sl (show _ = (Iw k : Value) from (if_pos t)) ab ⟨rfl, rfl⟩
 refine stc (V := .agg ((l.getD k default).cells (zi W (sb vl) (so vl + k * 10 + 3))).toArray) rfl rfl (fun F => ?_) ?_
 have H := F
 have H := tD H
 have N := q.cells g (hl.foot (ne_of_lt m))
 exact zl (k := 10) Tryd.isAgg59 Tryd.sizeOf59 rfl (show _ = (Ix (sb vl) (so vl + k * 10) : Value) from (if_pos F)) N ⟨rfl, rfl⟩
 refine stc (V := Iv n) rfl rfl (fun ac => ?_) ?_
 have I := ac
 have I := tD I
 exact zb (v := Iv n) rfl ⟨rfl, rfl⟩
 cases p : decide (((((l.getD k default).deps).length : Nat) : Int) = n)
 have hg32r := p
 have p := fD p
 refine stx rfl rfl (stx rfl rfl (st (yg (v := .bool false) rfl rfl (zf (zn rfl (zv (za kr (fun _ => (st (zb (v := Iw k) rfl ?_))))))))))
 have ad : InR ((k + 1 : Nat) : Int) := bo
 refine st (zV (r := ((k + 1 : Nat) : Int)) (k := .i64) (a := ((k : Nat) : Int)) (b := 1) rfl rfl (by rw [show (((k : Nat) : Int) + 1 : Int) = ((k + 1 : Nat) : Int) from bo]; exact zM ad) (st (ze (v := Iw (k + 1)) rfl (zf ?_))))
 exact ⟨_, by omega, k + 1, vo, l2, _, rfl, zq ⟨rfl, rfl, rfl, rfl, trivial⟩, by omega, x, hft, q⟩
 have p := tD p
 refine sty rfl rfl (zu (f := 55) (vals := [.agg ((l.getD k default).cells (zi W (sb vl) (so vl + k * 10 + 3))).toArray, Iv n]) (cap := []) rfl rfl Tryd.call55 (QJ (e := (l.getD k default)) (n := n) d o hn q) ?_)
 rintro _ w37 ⟨J, rfl, hc935, O, u⟩
 refine sty rfl rfl (zP (k := .i64) (a := J) (b := 0) rfl rfl (st (zX (v := .bool (decide (J = 0))) rfl rfl (zf ?_))))
 cases s : decide (J = 0)
 have s := fD s
 refine zn rfl (zv (za kr (fun _ => (st (zb (v := Iw k) rfl ?_)))))
 have ae : InR ((k + 1 : Nat) : Int) := bo
 refine st (zV (r := ((k + 1 : Nat) : Int)) (k := .i64) (a := ((k : Nat) : Int)) (b := 1) rfl rfl (by rw [show (((k : Nat) : Int) + 1 : Int) = ((k + 1 : Nat) : Int) from bo]; exact zM ae) (st (ze (v := Iw (k + 1)) rfl (zf ?_))))
 exact ⟨_, by omega, k + 1, vo, l2, _, rfl, zq ⟨rfl, rfl, rfl, rfl, trivial⟩, by omega, x, hft, u⟩
 have s := tD s
 refine zo rfl (za kr (fun _ => (st (zb (v := vo) rfl (st (zb (v := vl) rfl (st (zb (v := Iw k) rfl ?_))))))))
 have af : k < l.length := bo
 refine st (zk (k := 10) (i := k) Tryd.underlying47 Tryd.sizeOf59 rfl hl.sl rfl af ?_)
 have Q := u.cells g (hl.foot (ne_of_lt m))
 refine st (zl (k := 10) Tryd.isAgg59 Tryd.sizeOf59 rfl rfl Q (st (zD (k := 10) (parts' := [(0, .agg ((l.getD k default).cells (zi W (sb vl) (so vl + k * 10 + 3))).toArray)]) (c := ((l.getD k default).cells (zi W (sb vl) (so vl + k * 10 + 3))).toArray) Tryd.underlying47 Tryd.sizeOf59 Tryd.zeroValue59 dc rfl kr ?_)))
 intro w46 b45 ag
 have K := u.new ag
 have R := K.blk (i := 0) rfl
 have ah := K.s2_b
 have ai := ah.emp1
 refine st (yp (src := (shr G W)) (bytes := 96) (x1 := (l.getD k default)) ai el47 rfl rfl R (fun _ _ _ => (show _ from ⟨_, rfl, d, o⟩)) (by first | omega | (simp only [List.length_append, List.length_cons, List.length_nil, List.length_take, List.length_drop]; omega)) rfl ?_)
 intro X w48 L
 have aj := L.row (i := 0) rfl
 have hr54s : _ * 96 ≤ _ := aj.2
 refine st (ze (v := X) rfl (zf (za kr (fun _ => (st (zb (v := Iw k) rfl ?_))))))
 have ak : InR ((k + 1 : Nat) : Int) := bo
 refine st (zV (r := ((k + 1 : Nat) : Int)) (k := .i64) (a := ((k : Nat) : Int)) (b := 1) rfl rfl (by rw [show (((k : Nat) : Int) + 1 : Int) = ((k + 1 : Nat) : Int) from bo]; exact zM ak) (st (ze (v := Iw (k + 1)) rfl (zf ?_))))
 exact ⟨_, by omega, k + 1, X, (l2 ++ [(l.getD k default)]), _, rfl, zq ⟨rfl, rfl, rfl, rfl, trivial⟩, by omega, (by rw [List.length_append, List.length_singleton]; omega), (UI (P := fun e => Ub e n) hft (O (by omega))), L⟩

theorem WU {G : Nat → Prop} {W w : World} {Rs : List HP} {a : Ev} {da0 : Value} (hda0 : RdS W G da0 a.deps) (oa : a.Ok) {b : Ev} {db0 : Value} (hdb0 : RdS W G db0 b.deps) (ob : b.Ok) (hS0 : Sep G W Rs w) : Ret Tryd.prog 39 [.agg (a.cells da0).toArray, .agg (b.cells db0).toArray] w (fun r w' => r = (.bool (decide (a = b)) : Value) ∧ Sep G W Rs w') := by
 have hda0s : _ * 8 ≤ _ := hda0.small
 have hdb0s : _ * 8 ≤ _ := hdb0.small
 refine zr (args := [.agg (a.cells da0).toArray, .agg (b.cells db0).toArray]) Tryd.func39 rfl rfl ?_
 refine zd (za kr (fun _ => (st (zT (v := .agg (a.cells da0).toArray) rfl ?_))))
 intro w3 b2 bd
 have be := hS0.new bd
 refine st (zT (v := .agg (b.cells db0).toArray) rfl ?_)
 intro w7 d bf
 have g := be.new bf
 refine st (ze (v := .bool false) rfl (zf (zd (zF kr (st (yM rfl (st (zl (k := 2) (cs := [Iv (a.origin), Iv (a.seq)]) Tryd.isAgg57 Tryd.sizeOf57 rfl rfl (CellsAt.sub (CellsAt.all (g.blk (i := 1) rfl)) 0 (cs2 := [Iv (a.origin), Iv (a.seq)]) rfl) (st (yM rfl (st (zl (k := 2) (cs := [Iv (b.origin), Iv (b.seq)]) Tryd.isAgg57 Tryd.sizeOf57 rfl rfl (CellsAt.sub (CellsAt.all (g.blk (i := 0) rfl)) 0 (cs2 := [Iv (b.origin), Iv (b.seq)]) rfl) (st (xW (e := decide (a.origin = b.origin ∧ a.seq = b.seq)) (xs := #[Iv (a.origin), Iv (a.seq)]) (ys := #[Iv (b.origin), Iv (b.seq)]) VT rfl rfl (st (zb (v := .bool (decide (a.origin = b.origin ∧ a.seq = b.seq))) rfl (stc (V := Ix b2 2) rfl rfl (fun bg => ?_) ?_)))))))))))))))))
 have s := bg
 have s := tD s
 exact Vm rfl ⟨rfl, rfl⟩
 refine stc (V := Iv (a.lam)) rfl rfl (fun t => ?_) ?_
 have u := t
 have u := tD u
 exact zg (v := Iv (a.lam)) Tryd.isAgg3 (show _ = (Ix b2 2 : Value) from (if_pos t)) (zh (g.blk (i := 1) rfl) rfl) ⟨rfl, rfl⟩
 refine stc (V := Ix d 2) rfl rfl (fun S => ?_) ?_
 have x := S
 have x := tD x
 exact Vm rfl ⟨rfl, rfl⟩
 refine stc (V := Iv (b.lam)) rfl rfl (fun y => ?_) ?_
 have z := y
 have z := tD z
 exact zg (v := Iv (b.lam)) Tryd.isAgg3 (show _ = (Ix d 2 : Value) from (if_pos y)) (zh (g.blk (i := 0) rfl) rfl) ⟨rfl, rfl⟩
 refine stc (V := .bool (decide (a.lam = b.lam))) rfl rfl (fun h => ?_) ?_
 have A := h
 have A := tD A
 exact zP (k := .i64) (a := a.lam) (b := b.lam) (show _ = (Iv (a.lam) : Value) from (if_pos h)) (show _ = (Iv (b.lam) : Value) from (if_pos h)) ⟨rfl, rfl⟩
 refine st (zx (b := decide (a.origin = b.origin ∧ a.seq = b.seq)) (b' := decide (a.lam = b.lam)) rfl (fun hbp => (show _ = (.bool (decide (a.lam = b.lam)) : Value) from (if_pos hbp))) (st (zb (v := .bool ((decide (a.origin = b.origin ∧ a.seq = b.seq)) && (decide (a.lam = b.lam)))) rfl (stc (V := Ix b2 3) rfl rfl (fun T => ?_) ?_))))
 have U := T
 try simp only [zj] at U
 exact xm rfl ⟨rfl, rfl⟩
 refine stc (V := da0) rfl rfl (fun B => ?_) ?_
 have X := B
 try simp only [zj] at X
 exact zg (v := da0) Tryd.isAgg40 (show _ = (Ix b2 3 : Value) from (if_pos B)) (zh (g.blk (i := 1) rfl) rfl) ⟨rfl, rfl⟩
 refine stc (V := Ix d 3) rfl rfl (fun Y => ?_) ?_
 have Z := Y
 try simp only [zj] at Z
 exact xm rfl ⟨rfl, rfl⟩
 refine stc (V := db0) rfl rfl (fun C => ?_) ?_
 have aa := C
 try simp only [zj] at aa
 exact zg (v := db0) Tryd.isAgg40 (show _ = (Ix d 3 : Value) from (if_pos C)) (zh (g.blk (i := 0) rfl) rfl) ⟨rfl, rfl⟩
 refine Jb (V := .bool (decide (a.deps = b.deps))) (fun _ wq => Sep G W ((Blk d (b.cells db0).toArray 59) :: (Blk b2 (a.cells da0).toArray 59) :: Rs) wq) g rfl rfl (fun j => ?_) (fun w31 c => ?_)
 have ab := j
 try simp only [zj] at ab
 refine (zu (f := 19) (vals := [da0, db0]) (cap := []) rfl (yP ⟨(show _ = (da0 : Value) from (if_pos j)), (show _ = (db0 : Value) from (if_pos j)), trivial⟩) Tryd.call19 (YW (a := a.deps) (va := da0) (b := b.deps) (vb := db0) hda0 hdb0 g) ?_)
 rintro _ w29 ⟨rfl, ac⟩
 exact ⟨rfl, ac⟩
 refine st (zx (b := (decide (a.origin = b.origin ∧ a.seq = b.seq)) && (decide (a.lam = b.lam))) (b' := decide (a.deps = b.deps)) rfl (fun hbp => (show _ = (.bool (decide (a.deps = b.deps)) : Value) from (if_pos hbp))) (st (zb (v := .bool (((decide (a.origin = b.origin ∧ a.seq = b.seq)) && (decide (a.lam = b.lam))) && (decide (a.deps = b.deps)))) rfl (stc (V := Ix b2 4) rfl rfl (fun ad => ?_) ?_))))
 have ae := ad
 try simp only [zj] at ae
 exact xa rfl ⟨rfl, rfl⟩
 refine stc (V := Iv (a.typ)) rfl rfl (fun D => ?_) ?_
 have af := D
 try simp only [zj] at af
 exact zg (v := Iv (a.typ)) Tryd.isAgg3 (show _ = (Ix b2 4 : Value) from (if_pos D)) (zh (c.blk (i := 1) rfl) rfl) ⟨rfl, rfl⟩
 refine stc (V := Ix d 4) rfl rfl (fun ag => ?_) ?_
 have ah := ag
 try simp only [zj] at ah
 exact xa rfl ⟨rfl, rfl⟩
 refine stc (V := Iv (b.typ)) rfl rfl (fun E => ?_) ?_
 have ai := E
 try simp only [zj] at ai
 exact zg (v := Iv (b.typ)) Tryd.isAgg3 (show _ = (Ix d 4 : Value) from (if_pos E)) (zh (c.blk (i := 0) rfl) rfl) ⟨rfl, rfl⟩
 refine stc (V := .bool (decide (a.typ = b.typ))) rfl rfl (fun l => ?_) ?_
 have aj := l
 try simp only [zj] at aj
 exact zP (k := .i64) (a := a.typ) (b := b.typ) (show _ = (Iv (a.typ) : Value) from (if_pos l)) (show _ = (Iv (b.typ) : Value) from (if_pos l)) ⟨rfl, rfl⟩
 refine st (zx (b := ((decide (a.origin = b.origin ∧ a.seq = b.seq)) && (decide (a.lam = b.lam))) && (decide (a.deps = b.deps))) (b' := decide (a.typ = b.typ)) rfl (fun hbp => (show _ = (.bool (decide (a.typ = b.typ)) : Value) from (if_pos hbp))) (st (zb (v := .bool ((((decide (a.origin = b.origin ∧ a.seq = b.seq)) && (decide (a.lam = b.lam))) && (decide (a.deps = b.deps))) && (decide (a.typ = b.typ)))) rfl (stc (V := Ix b2 5) rfl rfl (fun ak => ?_) ?_))))
 have al := ak
 try simp only [zj] at al
 exact xZ rfl ⟨rfl, rfl⟩
 refine stc (V := Iv (a.agg)) rfl rfl (fun F => ?_) ?_
 have am := F
 try simp only [zj] at am
 exact zg (v := Iv (a.agg)) Tryd.isAgg3 (show _ = (Ix b2 5 : Value) from (if_pos F)) (zh (c.blk (i := 1) rfl) rfl) ⟨rfl, rfl⟩
 refine stc (V := Ix d 5) rfl rfl (fun an => ?_) ?_
 have ao := an
 try simp only [zj] at ao
 exact xZ rfl ⟨rfl, rfl⟩
 refine stc (V := Iv (b.agg)) rfl rfl (fun H => ?_) ?_
 have ap := H
 try simp only [zj] at ap
 exact zg (v := Iv (b.agg)) Tryd.isAgg3 (show _ = (Ix d 5 : Value) from (if_pos H)) (zh (c.blk (i := 0) rfl) rfl) ⟨rfl, rfl⟩
 refine stc (V := .bool (decide (a.agg = b.agg))) rfl rfl (fun m => ?_) ?_
 have aq := m
 try simp only [zj] at aq
 exact zP (k := .i64) (a := a.agg) (b := b.agg) (show _ = (Iv (a.agg) : Value) from (if_pos m)) (show _ = (Iv (b.agg) : Value) from (if_pos m)) ⟨rfl, rfl⟩
 refine st (zx (b := (((decide (a.origin = b.origin ∧ a.seq = b.seq)) && (decide (a.lam = b.lam))) && (decide (a.deps = b.deps))) && (decide (a.typ = b.typ))) (b' := decide (a.agg = b.agg)) rfl (fun hbp => (show _ = (.bool (decide (a.agg = b.agg)) : Value) from (if_pos hbp))) (st (zb (v := .bool (((((decide (a.origin = b.origin ∧ a.seq = b.seq)) && (decide (a.lam = b.lam))) && (decide (a.deps = b.deps))) && (decide (a.typ = b.typ))) && (decide (a.agg = b.agg)))) rfl (stc (V := Ix b2 6) rfl rfl (fun ar => ?_) ?_))))
 have au := ar
 try simp only [zj] at au
 exact xj rfl ⟨rfl, rfl⟩
 refine stc (V := Iv (a.field)) rfl rfl (fun I => ?_) ?_
 have av := I
 try simp only [zj] at av
 exact zg (v := Iv (a.field)) Tryd.isAgg3 (show _ = (Ix b2 6 : Value) from (if_pos I)) (zh (c.blk (i := 1) rfl) rfl) ⟨rfl, rfl⟩
 refine stc (V := Ix d 6) rfl rfl (fun aw => ?_) ?_
 have ax := aw
 try simp only [zj] at ax
 exact xj rfl ⟨rfl, rfl⟩
 refine stc (V := Iv (b.field)) rfl rfl (fun J => ?_) ?_
 have ay := J
 try simp only [zj] at ay
 exact zg (v := Iv (b.field)) Tryd.isAgg3 (show _ = (Ix d 6 : Value) from (if_pos J)) (zh (c.blk (i := 0) rfl) rfl) ⟨rfl, rfl⟩
 refine stc (V := .bool (decide (a.field = b.field))) rfl rfl (fun n => ?_) ?_
 have az := n
 try simp only [zj] at az
 exact zP (k := .i64) (a := a.field) (b := b.field) (show _ = (Iv (a.field) : Value) from (if_pos n)) (show _ = (Iv (b.field) : Value) from (if_pos n)) ⟨rfl, rfl⟩
 refine st (zx (b := ((((decide (a.origin = b.origin ∧ a.seq = b.seq)) && (decide (a.lam = b.lam))) && (decide (a.deps = b.deps))) && (decide (a.typ = b.typ))) && (decide (a.agg = b.agg))) (b' := decide (a.field = b.field)) rfl (fun hbp => (show _ = (.bool (decide (a.field = b.field)) : Value) from (if_pos hbp))) (st (zb (v := .bool ((((((decide (a.origin = b.origin ∧ a.seq = b.seq)) && (decide (a.lam = b.lam))) && (decide (a.deps = b.deps))) && (decide (a.typ = b.typ))) && (decide (a.agg = b.agg))) && (decide (a.field = b.field)))) rfl (stc (V := Ix b2 7) rfl rfl (fun aA => ?_) ?_))))
 have aB := aA
 try simp only [zj] at aB
 exact xo rfl ⟨rfl, rfl⟩
 refine stc (V := Iv (a.op)) rfl rfl (fun K => ?_) ?_
 have aC := K
 try simp only [zj] at aC
 exact zg (v := Iv (a.op)) Tryd.isAgg3 (show _ = (Ix b2 7 : Value) from (if_pos K)) (zh (c.blk (i := 1) rfl) rfl) ⟨rfl, rfl⟩
 refine stc (V := Ix d 7) rfl rfl (fun aD => ?_) ?_
 have aE := aD
 try simp only [zj] at aE
 exact xo rfl ⟨rfl, rfl⟩
 refine stc (V := Iv (b.op)) rfl rfl (fun L => ?_) ?_
 have aF := L
 try simp only [zj] at aF
 exact zg (v := Iv (b.op)) Tryd.isAgg3 (show _ = (Ix d 7 : Value) from (if_pos L)) (zh (c.blk (i := 0) rfl) rfl) ⟨rfl, rfl⟩
 refine stc (V := .bool (decide (a.op = b.op))) rfl rfl (fun o => ?_) ?_
 have aG := o
 try simp only [zj] at aG
 exact zP (k := .i64) (a := a.op) (b := b.op) (show _ = (Iv (a.op) : Value) from (if_pos o)) (show _ = (Iv (b.op) : Value) from (if_pos o)) ⟨rfl, rfl⟩
 refine st (zx (b := (((((decide (a.origin = b.origin ∧ a.seq = b.seq)) && (decide (a.lam = b.lam))) && (decide (a.deps = b.deps))) && (decide (a.typ = b.typ))) && (decide (a.agg = b.agg))) && (decide (a.field = b.field))) (b' := decide (a.op = b.op)) rfl (fun hbp => (show _ = (.bool (decide (a.op = b.op)) : Value) from (if_pos hbp))) (st (zb (v := .bool (((((((decide (a.origin = b.origin ∧ a.seq = b.seq)) && (decide (a.lam = b.lam))) && (decide (a.deps = b.deps))) && (decide (a.typ = b.typ))) && (decide (a.agg = b.agg))) && (decide (a.field = b.field))) && (decide (a.op = b.op)))) rfl (stc (V := Ix b2 8) rfl rfl (fun aH => ?_) ?_))))
 have aI := aH
 try simp only [zj] at aI
 exact xe rfl ⟨rfl, rfl⟩
 refine stc (V := Iv (a.arg)) rfl rfl (fun M => ?_) ?_
 have aJ := M
 try simp only [zj] at aJ
 exact zg (v := Iv (a.arg)) Tryd.isAgg3 (show _ = (Ix b2 8 : Value) from (if_pos M)) (zh (c.blk (i := 1) rfl) rfl) ⟨rfl, rfl⟩
 refine stc (V := Ix d 8) rfl rfl (fun aK => ?_) ?_
 have aL := aK
 try simp only [zj] at aL
 exact xe rfl ⟨rfl, rfl⟩
 refine stc (V := Iv (b.arg)) rfl rfl (fun N => ?_) ?_
 have aM := N
 try simp only [zj] at aM
 exact zg (v := Iv (b.arg)) Tryd.isAgg3 (show _ = (Ix d 8 : Value) from (if_pos N)) (zh (c.blk (i := 0) rfl) rfl) ⟨rfl, rfl⟩
 refine stc (V := .bool (decide (a.arg = b.arg))) rfl rfl (fun p => ?_) ?_
 have aN := p
 try simp only [zj] at aN
 exact zP (k := .i64) (a := a.arg) (b := b.arg) (show _ = (Iv (a.arg) : Value) from (if_pos p)) (show _ = (Iv (b.arg) : Value) from (if_pos p)) ⟨rfl, rfl⟩
 refine st (zx (b := ((((((decide (a.origin = b.origin ∧ a.seq = b.seq)) && (decide (a.lam = b.lam))) && (decide (a.deps = b.deps))) && (decide (a.typ = b.typ))) && (decide (a.agg = b.agg))) && (decide (a.field = b.field))) && (decide (a.op = b.op))) (b' := decide (a.arg = b.arg)) rfl (fun hbp => (show _ = (.bool (decide (a.arg = b.arg)) : Value) from (if_pos hbp))) (st (zb (v := .bool ((((((((decide (a.origin = b.origin ∧ a.seq = b.seq)) && (decide (a.lam = b.lam))) && (decide (a.deps = b.deps))) && (decide (a.typ = b.typ))) && (decide (a.agg = b.agg))) && (decide (a.field = b.field))) && (decide (a.op = b.op))) && (decide (a.arg = b.arg)))) rfl (stc (V := Ix b2 9) rfl rfl (fun aO => ?_) ?_))))
 have aP := aO
 try simp only [zj] at aP
 exact Vk rfl ⟨rfl, rfl⟩
 refine stc (V := Iv (a.key)) rfl rfl (fun O => ?_) ?_
 have aQ := O
 try simp only [zj] at aQ
 exact zg (v := Iv (a.key)) Tryd.isAgg3 (show _ = (Ix b2 9 : Value) from (if_pos O)) (zh (c.blk (i := 1) rfl) rfl) ⟨rfl, rfl⟩
 refine stc (V := Ix d 9) rfl rfl (fun aR => ?_) ?_
 have aS := aR
 try simp only [zj] at aS
 exact Vk rfl ⟨rfl, rfl⟩
 refine stc (V := Iv (b.key)) rfl rfl (fun P => ?_) ?_
 have aT := P
 try simp only [zj] at aT
 exact zg (v := Iv (b.key)) Tryd.isAgg3 (show _ = (Ix d 9 : Value) from (if_pos P)) (zh (c.blk (i := 0) rfl) rfl) ⟨rfl, rfl⟩
 refine stc (V := .bool (decide (a.key = b.key))) rfl rfl (fun q => ?_) ?_
 have aU := q
 try simp only [zj] at aU
 exact zP (k := .i64) (a := a.key) (b := b.key) (show _ = (Iv (a.key) : Value) from (if_pos q)) (show _ = (Iv (b.key) : Value) from (if_pos q)) ⟨rfl, rfl⟩
 refine st (zx (b := (((((((decide (a.origin = b.origin ∧ a.seq = b.seq)) && (decide (a.lam = b.lam))) && (decide (a.deps = b.deps))) && (decide (a.typ = b.typ))) && (decide (a.agg = b.agg))) && (decide (a.field = b.field))) && (decide (a.op = b.op))) && (decide (a.arg = b.arg))) (b' := decide (a.key = b.key)) rfl (fun hbp => (show _ = (.bool (decide (a.key = b.key)) : Value) from (if_pos hbp))) (st (ze (v := .bool (((((((((decide (a.origin = b.origin ∧ a.seq = b.seq)) && (decide (a.lam = b.lam))) && (decide (a.deps = b.deps))) && (decide (a.typ = b.typ))) && (decide (a.agg = b.agg))) && (decide (a.field = b.field))) && (decide (a.op = b.op))) && (decide (a.arg = b.arg))) && (decide (a.key = b.key)))) rfl (zf (zt (zO Tryd.results39 (show _ = (.bool (((((((((decide (a.origin = b.origin ∧ a.seq = b.seq)) && (decide (a.lam = b.lam))) && (decide (a.deps = b.deps))) && (decide (a.typ = b.typ))) && (decide (a.agg = b.agg))) && (decide (a.field = b.field))) && (decide (a.op = b.op))) && (decide (a.arg = b.arg))) && (decide (a.key = b.key))) : Value) from rfl) ?_))))))
 have aV := c.s2_
 refine ⟨?_, aV⟩
 congr 1
 rw [Bool.eq_iff_iff]
 simp only [Bool.and_eq_true, decide_eq_true_eq, Ev.eq_iff]
 constructor
 rintro ⟨⟨⟨⟨⟨⟨⟨⟨R, h3⟩, h4⟩, h5⟩, h6⟩, h7⟩, h8⟩, h9⟩, Q⟩; exact ⟨R.1, R.2, h3, h4, h5, h6, h7, h8, h9, Q⟩
 rintro ⟨R, h2, h3, h4, h5, h6, h7, h8, h9, Q⟩; exact ⟨⟨⟨⟨⟨⟨⟨⟨⟨R, h2⟩, h3⟩, h4⟩, h5⟩, h6⟩, h7⟩, h8⟩, h9⟩, Q⟩

end Go.Proofs.YtlblilbmpdejgaaDoor
/- Steps of the proofs of this seat: part F7. -/
set_option maxRecDepth 8000
set_option maxHeartbeats 4000000
namespace Go.Proofs.YtlblilbmpdejgaaDoor
open Go.Proofs Go.RowKit

def ym (p : Int) : Dcl := ⟨[(⟨[(⟨2, p, false, []⟩ : Fld)]⟩ : Typ)], []⟩
def evA : Ev := ⟨0, 1, 1, [0, 0], 0, 0, 0, 2, 1, 0⟩
def evB : Ev := ⟨1, 1, 2, [0, 0], 0, 0, 0, 2, 2, 0⟩
def evC : Ev := ⟨1, 2, 3, [0, 1], 0, 0, 0, 2, 3, 0⟩
def kx : List Ent := yn (ym 2) [evA, evB, evC]
def ky : List Ent := yn (ym 3) [evB, evA, evC]
theorem VV (p : Int) : DclOk (ym p) := by
  have one : ∀ {P : Nat → Prop}, P 0 → ∀ i, i < 1 → P i := fun {P} h i hi => (show i = 0 by omega) ▸ h
  refine ⟨Nat.le_refl 1, (by show 1 ≤ 8; decide), one (P := fun i => TypOk ((ym p).types.getD i default)) ?_⟩
  refine ⟨Nat.le_refl 1, (by show 1 ≤ 8; decide), ?_, ?_, ?_, ?_⟩
  · intro i hi; obtain rfl : i = 0 := by have : i < 1 := hi; omega
    exact ⟨(by decide : (1 : Int) ≤ 2), (by decide : (2 : Int) ≤ 4)⟩
  · intro i hi h; obtain rfl : i = 0 := by have : i < 1 := hi; omega
    cases h
  · intro i hi; obtain rfl : i = 0 := by have : i < 1 := hi; omega
    exact ⟨fun h => absurd h (by show ¬ (2 : Int) = 4; decide), Nat.zero_le _⟩
  · intro i hi j hj; obtain rfl : i = 0 := by have : i < 1 := hi; omega
    exact absurd hj (Nat.not_lt_zero j)
theorem UK {G : Nat → Prop} {W w : World} {Rs : List HP} {o : Int} (ho : InR o) {sq : Int} (hsq : InR sq) {lm : Int} (hlm : InR lm) {ar : Int} (har : InR ar) {vdp : Value} {dp : List Int} (hdp : RdS W G vdp dp) (hS0 : Sep G W Rs w) : Ret Tryd.prog 43 [.int .i64 (o), .int .i64 (sq), .int .i64 (lm), .int .i64 (ar), vdp] w (fun r w' => r = (.agg ((⟨o, sq, lm, dp, 0, 0, 0, 2, ar, 0⟩ : Ev).cells vdp).toArray : Value) ∧ ((⟨o, sq, lm, dp, 0, 0, 0, 2, ar, 0⟩ : Ev).Ok) ∧ Sep G W Rs w') := by
 have hdps : _ * 8 ≤ _ := hdp.small
 refine zr (args := [Iv o, Iv sq, Iv lm, Iv ar, vdp]) Tryd.func43 rfl rfl ?_
 refine zd (za kr (fun _ => (st (zB Tryd.zeroValue59 ?_))))
 intro w3 b2 e
 have a := hS0.new e
 refine zf (zd (za (by kernel_rfl) (fun _ => (st (zb (v := Iv o) rfl (st (zb (v := Iv sq) rfl (st (zQ (parts' := [(0, Iv o), (1, Iv sq)]) (v := .agg #[Iv o, Iv sq]) rfl (by simp [Instr.build, Instr.fill, Ev.cells, go_sem, Mv.cells, Fld.cells, Typ.cells, Prj.cells, Dcl.cells, Cel.cells, AskR.cells, Ask.cells, CelS.cells, Ev.cells, Ent.cells, Sta.cells]) (st (zb (v := Iv lm) rfl (st (zb (v := vdp) rfl (st (zb (v := Iv ar) rfl ?_)))))))))))))))
 have f : Ev.Ok (⟨o, sq, lm, dp, 0, 0, 0, 2, ar, 0⟩ : Ev) := ⟨(show InR (o) from ho), (show InR (sq) from hsq), (show InR (lm) from hlm), (show InR (0) from dc), (show InR (0) from dc), (show InR (0) from dc), (show InR (2) from dc), (show InR (ar) from har), (show InR (0) from dc)⟩
 refine st (zQ (parts' := [(0, .agg #[Iv o, Iv sq]), (1, Iv lm), (2, vdp), (6, Iv 2), (7, Iv ar)]) (v := .agg ((⟨o, sq, lm, dp, 0, 0, 0, 2, ar, 0⟩ : Ev).cells vdp).toArray) rfl (by obtain ⟨_, _, g, _⟩ := hdp.sl; rw [show vdp = Value.slice _ _ _ from g]; simp [Instr.build, Instr.fill, Ev.cells, go_sem, Mv.cells, Fld.cells, Typ.cells, Prj.cells, Dcl.cells, Cel.cells, AskR.cells, Ask.cells, CelS.cells, Ev.cells, Ent.cells, Sta.cells]) (stn (zy (v := .agg ((⟨o, sq, lm, dp, 0, 0, 0, 2, ar, 0⟩ : Ev).cells vdp).toArray) (c' := ((⟨o, sq, lm, dp, 0, 0, 0, 2, ar, 0⟩ : Ev).cells vdp).toArray) Tryd.sizeOf59 rfl rfl (a.blk (i := 0) rfl) (ya ⟨rfl, rfl, rfl, hdp.sl.one, rfl, rfl, rfl, rfl, rfl, rfl, trivial⟩) (Nat.le_of_ble_eq_true rfl) rfl ?_)))
 intro w7 h
 have c := a.pt0 h
 refine zf (zt (Xt (b := b2) Tryd.results43 Tryd.isAgg59 Tryd.sizeOf59 rfl rfl (CellsAt.all (c.blk (i := 0) rfl)) ?_))
 have d := c.s1_
 refine ⟨rfl, ?_, d⟩
 exact f

theorem YH {G : Nat → Prop} {W w : World} {Rs : List HP} {p : Int} (hp : InR p) (hS0 : Sep G W Rs w) : Ret Tryd.prog 44 [.int .i64 (p)] w (fun r w' => ∃ (bt : Nat) (bf : Nat), r = (.agg #[(.slice (some ⟨bt, 0, none⟩) 1 1), .slice none 0 0] : Value) ∧ Sep G W ((Blk bt #[(.slice (some ⟨bf, 0, none⟩) 1 1)] 33) :: (Blk bf #[.int .i64 (2), .int .i64 (p), .bool false, .slice none 0 0] 79) :: Rs) w') := by
 refine zr (args := [Iv p]) Tryd.func44 rfl rfl ?_
 refine zd (za kr (fun _ => (st (zB Tryd.zeroValue25 ?_))))
 intro w3 b2 j
 have l := hS0.new j
 refine zf (zd (za (by kernel_rfl) (fun _ => (st (zb (v := Iv p) rfl (st (zQ (parts' := [(0, Iv 2), (1, Iv p)]) (v := .agg #[Iv 2, Iv p, .bool false, (Iz)]) rfl (by simp [Instr.build, Instr.fill, Ev.cells, go_sem, Mv.cells, Fld.cells, Typ.cells, Prj.cells, Dcl.cells, Cel.cells, AskR.cells, Ask.cells, CelS.cells, Ev.cells, Ent.cells, Sta.cells]) (st (zD (k := 4) (parts' := [(0, .agg #[Iv 2, Iv p, .bool false, (Iz)])]) (c := #[Iv 2, Iv p, .bool false, (Iz)]) Tryd.underlying31 Tryd.sizeOf79 Tryd.zeroValue79 (by decide) rfl (by kernel_rfl) ?_)))))))))
 intro w7 d m
 have n := l.new m
 refine st (zQ (parts' := [(0, (Iy d 1 1))]) (v := .agg #[(Iy d 1 1)]) rfl (by simp [Instr.build, Instr.fill, Ev.cells, go_sem, Mv.cells, Fld.cells, Typ.cells, Prj.cells, Dcl.cells, Cel.cells, AskR.cells, Ask.cells, CelS.cells, Ev.cells, Ent.cells, Sta.cells]) (st (zD (k := 1) (parts' := [(0, .agg #[(Iy d 1 1)])]) (c := #[(Iy d 1 1)]) Tryd.underlying22 Tryd.sizeOf33 Tryd.zeroValue33 (by decide) rfl (by kernel_rfl) ?_)))
 intro w11 a o
 have e := n.new o
 refine st (zQ (parts' := [(0, (Iy a 1 1))]) (v := .agg #[(Iy a 1 1), (Iz)]) rfl (by simp [Instr.build, Instr.fill, Ev.cells, go_sem, Mv.cells, Fld.cells, Typ.cells, Prj.cells, Dcl.cells, Cel.cells, AskR.cells, Ask.cells, CelS.cells, Ev.cells, Ent.cells, Sta.cells]) (stn (zy (v := .agg #[(Iy a 1 1), (Iz)]) (c' := #[(Iy a 1 1), (Iz)]) Tryd.sizeOf25 rfl rfl (e.blk (i := 2) rfl) (ya ⟨rfl, rfl, trivial⟩) (Nat.le_of_ble_eq_true rfl) rfl ?_)))
 intro w13 g
 have f := e.pt2 g
 refine zf (zt (Xt (b := b2) Tryd.results44 Tryd.isAgg25 Tryd.sizeOf25 rfl rfl (CellsAt.all (f.blk (i := 2) rfl)) ?_))
 have h := f.s3_ab
 refine ⟨a, d, rfl, h⟩

theorem xY {d : Option Tmp} {ty : TypeId} {pos : String} {af : Array Edge} {g : Option (Nat × Bool)} {σ : Env} {w : World} {K : Value → World → Prop} {x : Operand} {b o : Nat} (hx : ev σ x = .pointer (some ⟨b, o, none⟩)) (h : K (.pointer (some ⟨b, o + 10, none⟩)) w) : opV Tryd.prog ⟨d, .fieldAddr 62 x 1, ty, pos, af, g⟩ σ w K := zA Tryd.underlying62 rfl rfl (fun w => ⟨0, Tryd.sizeOf4 w⟩) hx h
theorem Xl {d : Option Tmp} {ty : TypeId} {pos : String} {af : Array Edge} {g : Option (Nat × Bool)} {σ : Env} {w : World} {K : Value → World → Prop} {x : Operand} {b o : Nat} (hx : ev σ x = .pointer (some ⟨b, o, none⟩)) (h : K (.pointer (some ⟨b, o + 11, none⟩)) w) : opV Tryd.prog ⟨d, .fieldAddr 62 x 2, ty, pos, af, g⟩ σ w K := zA Tryd.underlying62 rfl rfl (fun w => ⟨1, Tryd.sizeOf57 w⟩) hx h
set_option maxHeartbeats 8000000 in
set_option maxRecDepth 20000 in
theorem XL {G : Nat → Prop} {W w : World} {Rs : List HP} (hKN : RdS W G (.slice (some ⟨0, 0, none⟩) 6 6) kindsL) (hS0 : Sep G W Rs w) : Ret Tryd.prog 21 [] w (fun r w' => r = (.bool true : Value) ∧ Sep G W Rs w') := by
 have hKNs : _ * 8 ≤ _ := hKN.small
 refine zr (args := []) Tryd.func21 rfl rfl ?_
 refine zd (za kr (fun _ => (st (ze (v := .bool false) rfl (zf (zd (za kr (fun _ => (st (zD (k := 1) (parts' := [(0, Iv 0), (1, Iv 0)]) (c := #[Iv 0, Iv 0]) Tryd.underlying40 Tryd.sizeOf3 Tryd.zeroValue3 dc rfl kr ?_))))))))))
 intro w3 b2 jN
 have jO := hS0.new jN
 have iD : Sep G W ((RwI (Iy b2 2 2) [0, 0]) :: Rs) w3 := Sep.blkRow (src := own) (l := [0, 0]) (css := [[Iv 0], [Iv 0]]) jO rfl ⟨fun _ _ => ⟨rfl, (by decide)⟩, fun _ _ => ⟨rfl, (by decide)⟩, trivial⟩ (by first | decide | (simp only [List.length_cons, List.length_nil]; decide))
 have iE := iD.row (i := 0) rfl
 have hr6s : _ * 8 ≤ _ := iE.2
 obtain ⟨G7, jP, hB10, iF, iG⟩ := iD.lend
 have cZ := RowE.rd jP
 have hrd13s : _ * 8 ≤ _ := cZ.small
 refine st (zu (f := 43) (vals := [Iv 0, Iv 1, Iv 1, Iv 1, (Iy b2 2 2)]) (cap := []) rfl rfl Tryd.call43 (UK (o := 0) (sq := 1) (lm := 1) (ar := 1) (dp := [0, 0]) (vdp := (Iy b2 2 2)) dc dc dc dc cZ iF) ?_)
 rintro _ w15 ⟨rfl, fT, iH⟩
 have iI := iG _ _ iH
 refine st (zB Tryd.zeroValue59 ?_)
 intro w20 N iJ
 have dY := iI.new iJ
 refine stn (zy (v := .agg ((⟨0, 1, 1, [0, 0], 0, 0, 0, 2, 1, 0⟩ : Ev).cells (Iy b2 2 2)).toArray) (c' := ((⟨0, 1, 1, [0, 0], 0, 0, 0, 2, 1, 0⟩ : Ev).cells (Iy b2 2 2)).toArray) Tryd.sizeOf59 rfl rfl (dY.blk (i := 0) rfl) (ya ⟨rfl, rfl, rfl, iE.1.one, rfl, rfl, rfl, rfl, rfl, rfl, trivial⟩) (Nat.le_of_ble_eq_true rfl) rfl ?_)
 intro w22 iK
 have iL := dY.pt0 iK
 refine zf (zd (za kr (fun _ => (st (zD (k := 1) (parts' := [(0, Iv 0), (1, Iv 0)]) (c := #[Iv 0, Iv 0]) Tryd.underlying40 Tryd.sizeOf3 Tryd.zeroValue3 dc rfl kr ?_)))))
 intro jQ g iM
 have iN := iL.new iM
 have dZ : Sep G W ((RwI (Iy g 2 2) [0, 0]) :: (Blk N ((⟨0, 1, 1, [0, 0], 0, 0, 0, 2, 1, 0⟩ : Ev).cells (Iy b2 2 2)).toArray 59) :: (RwI (Iy b2 2 2) [0, 0]) :: Rs) jQ := Sep.blkRow (src := own) (l := [0, 0]) (css := [[Iv 0], [Iv 0]]) iN rfl ⟨fun _ _ => ⟨rfl, (by decide)⟩, fun _ _ => ⟨rfl, (by decide)⟩, trivial⟩ (by first | decide | (simp only [List.length_cons, List.length_nil]; decide))
 have ea := dZ.row (i := 0) rfl
 have hr30s : _ * 8 ≤ _ := ea.2
 obtain ⟨G31, iO, hB34, iP, iQ⟩ := dZ.lend
 have da := RowE.rd iO
 have hrd37s : _ * 8 ≤ _ := da.small
 refine st (zu (f := 43) (vals := [Iv 1, Iv 1, Iv 2, Iv 2, (Iy g 2 2)]) (cap := []) rfl rfl Tryd.call43 (UK (o := 1) (sq := 1) (lm := 2) (ar := 2) (dp := [0, 0]) (vdp := (Iy g 2 2)) dc dc dc dc da iP) ?_)
 rintro _ w39 ⟨rfl, fU, iR⟩
 have iS := iQ _ _ iR
 refine st (zB Tryd.zeroValue59 ?_)
 intro w44 P iT
 have eb := iS.new iT
 refine stn (zy (v := .agg ((⟨1, 1, 2, [0, 0], 0, 0, 0, 2, 2, 0⟩ : Ev).cells (Iy g 2 2)).toArray) (c' := ((⟨1, 1, 2, [0, 0], 0, 0, 0, 2, 2, 0⟩ : Ev).cells (Iy g 2 2)).toArray) Tryd.sizeOf59 rfl rfl (eb.blk (i := 0) rfl) (ya ⟨rfl, rfl, rfl, ea.1.one, rfl, rfl, rfl, rfl, rfl, rfl, trivial⟩) (Nat.le_of_ble_eq_true rfl) rfl ?_)
 intro w46 iU
 have iV := eb.pt0 iU
 refine zf (zd (za kr (fun _ => (st (zD (k := 1) (parts' := [(0, Iv 0), (1, Iv 1)]) (c := #[Iv 0, Iv 1]) Tryd.underlying40 Tryd.sizeOf3 Tryd.zeroValue3 dc rfl kr ?_)))))
 intro jR m iW
 have iX := iV.new iW
 have ec : Sep G W ((RwI (Iy m 2 2) [0, 1]) :: (Blk P ((⟨1, 1, 2, [0, 0], 0, 0, 0, 2, 2, 0⟩ : Ev).cells (Iy g 2 2)).toArray 59) :: (RwI (Iy g 2 2) [0, 0]) :: (Blk N ((⟨0, 1, 1, [0, 0], 0, 0, 0, 2, 1, 0⟩ : Ev).cells (Iy b2 2 2)).toArray 59) :: (RwI (Iy b2 2 2) [0, 0]) :: Rs) jR := Sep.blkRow (src := own) (l := [0, 1]) (css := [[Iv 0], [Iv 1]]) iX rfl ⟨fun _ _ => ⟨rfl, (by decide)⟩, fun _ _ => ⟨rfl, (by decide)⟩, trivial⟩ (by first | decide | (simp only [List.length_cons, List.length_nil]; decide))
 have ed := ec.row (i := 0) rfl
 have hr54s : _ * 8 ≤ _ := ed.2
 obtain ⟨G55, iY, hB58, iZ, ja⟩ := ec.lend
 have db := RowE.rd iY
 have hrd61s : _ * 8 ≤ _ := db.small
 refine st (zu (f := 43) (vals := [Iv 1, Iv 2, Iv 3, Iv 3, (Iy m 2 2)]) (cap := []) rfl rfl Tryd.call43 (UK (o := 1) (sq := 2) (lm := 3) (ar := 3) (dp := [0, 1]) (vdp := (Iy m 2 2)) dc dc dc dc db iZ) ?_)
 rintro _ w63 ⟨rfl, fV, jb⟩
 have jc := ja _ _ jb
 refine st (zB Tryd.zeroValue59 ?_)
 intro w68 Q jd
 have ee := jc.new jd
 refine stn (zy (v := .agg ((⟨1, 2, 3, [0, 1], 0, 0, 0, 2, 3, 0⟩ : Ev).cells (Iy m 2 2)).toArray) (c' := ((⟨1, 2, 3, [0, 1], 0, 0, 0, 2, 3, 0⟩ : Ev).cells (Iy m 2 2)).toArray) Tryd.sizeOf59 rfl rfl (ee.blk (i := 0) rfl) (ya ⟨rfl, rfl, rfl, ed.1.one, rfl, rfl, rfl, rfl, rfl, rfl, trivial⟩) (Nat.le_of_ble_eq_true rfl) rfl ?_)
 intro L je
 have jf := ee.pt0 je
 refine zf (zd ?_)
 have dd : evA.Ok := fT
 have jg : Sep G W ((Blk Q ((⟨1, 2, 3, [0, 1], 0, 0, 0, 2, 3, 0⟩ : Ev).cells (Iy m 2 2)).toArray 59) :: (RwI (Iy m 2 2) [0, 1]) :: (Blk P ((⟨1, 1, 2, [0, 0], 0, 0, 0, 2, 2, 0⟩ : Ev).cells (Iy g 2 2)).toArray 59) :: (RwI (Iy g 2 2) [0, 0]) :: (Blk N (evA.cells (Iy b2 2 2)).toArray 59) :: (RwI (Iy b2 2 2) [0, 0]) :: Rs) L := jf
 have de : evB.Ok := fU
 have jh : Sep G W ((Blk Q ((⟨1, 2, 3, [0, 1], 0, 0, 0, 2, 3, 0⟩ : Ev).cells (Iy m 2 2)).toArray 59) :: (RwI (Iy m 2 2) [0, 1]) :: (Blk P (evB.cells (Iy g 2 2)).toArray 59) :: (RwI (Iy g 2 2) [0, 0]) :: (Blk N (evA.cells (Iy b2 2 2)).toArray 59) :: (RwI (Iy b2 2 2) [0, 0]) :: Rs) L := jg
 have df : evC.Ok := fV
 have ji : Sep G W ((Blk Q (evC.cells (Iy m 2 2)).toArray 59) :: (RwI (Iy m 2 2) [0, 1]) :: (Blk P (evB.cells (Iy g 2 2)).toArray 59) :: (RwI (Iy g 2 2) [0, 0]) :: (Blk N (evA.cells (Iy b2 2 2)).toArray 59) :: (RwI (Iy b2 2 2) [0, 0]) :: Rs) L := jh
 have jj := ji.mv1
 obtain ⟨G80, jk, ef, jl, jm⟩ := jj.lend
 have bd := RowE.rd jk
 have hrd86s : _ * 8 ≤ _ := bd.small
 have jn := jl.mv2
 obtain ⟨G88, jo, be, jp, jq⟩ := jn.lend
 have bf := RowE.rd jo
 have hrd94s : _ * 8 ≤ _ := bf.small
 have jr := jp.mv3
 obtain ⟨O, js, ak, fW, fX⟩ := jr.lend
 have aC := RowE.rd js
 have hrd102s : _ * 8 ≤ _ := aC.small
 refine WD6 ((fun TT X => WF [fun vals T => Sep O L (X :: TT) T, fun vals T => ∃ (t : Nat) (u : Nat), (vals 0 = (.agg #[(Iy t 1 1), Iz] : Value)) ∧ Sep O L ((Blk t #[(Iy u 1 1)] 33) :: (Blk u #[Iv 2, Iv 2, .bool false, Iz] 79) :: X :: TT) T, fun vals T => ∃ (F : Nat), (vals 4 = ((Iy F 3 3) : Value)) ∧ Sep O L ((Blk F (evA.cells (Iy b2 2 2) ++ evB.cells (Iy g 2 2) ++ evC.cells (Iy m 2 2)).toArray 59) :: X :: TT) T, fun vals T => ∃ (t : Nat) (u : Nat) (F : Nat), (vals 0 = (.agg #[(Iy t 1 1), Iz] : Value)) ∧ (vals 4 = ((Iy F 3 3) : Value)) ∧ Sep O L ((Blk F (evA.cells (Iy b2 2 2) ++ evB.cells (Iy g 2 2) ++ evC.cells (Iy m 2 2)).toArray 59) :: (Blk t #[(Iy u 1 1)] 33) :: (Blk u #[Iv 2, Iv 2, .bool false, Iz] 79) :: X :: TT) T, fun _ _ => True, fun _ _ => True, fun _ _ => True, fun vals T => ∃ (t : Nat) (u : Nat) (F : Nat) (x : Nat), (vals 0 = (.agg #[(Iy t 1 1), Iz] : Value)) ∧ (vals 4 = ((Iy F 3 3) : Value)) ∧ (vals 5 = (Ix x 0 : Value)) ∧ Sep O L ((RowE (α := Fld) (shr O L) 79 (Iy u 1 1) [(⟨2, 2, false, []⟩ : Fld)]) :: (ViewO x (ym 2) kx kx) :: X :: TT) T]) ((Blk P (evB.cells (Iy g 2 2)).toArray 59) :: (Blk N (evA.cells (Iy b2 2 2)).toArray 59) :: Rs) (Blk Q (evC.cells (Iy m 2 2)).toArray 59)) (AF [fun _ => True, Vl 1 (.agg (evA.cells (Iy b2 2 2)).toArray), Vl 2 (.agg (evB.cells (Iy g 2 2)).toArray), Vl 3 (.agg (evC.cells (Iy m 2 2)).toArray), fun _ => True, fun _ => True, fun vals => ∀ (x : Nat), vals 5 = (Ix x 0 : Value) → vals 6 = (Ix x 0 : Value)]) [[], [], [], [], [1, 2, 3], (rg 5), (rg 6)] [0, 4, 5] [[0, 2], [0, 1], [0, 1], [0, 1], [0, 1], [3], [7]] fW ⟨?_, ?_, ?_, ?_, ?_, ?_, ?_, trivial⟩ ?_ (hlocA := yZ ⟨dT, dA, dA, dA, dT, dT, fun vals s C h => fun x ad => (C 6 (.inl rfl)).trans (h x ((C 5 (.inr dc)).symm.trans ad)), trivial⟩)
 intro jt vals w204 fY dg hA205
 have bn : jt ∈ [0, 2] := fY
 simp only [List.mem_cons, List.not_mem_nil, or_false] at bn
 rcases bn with rfl | rfl
 have fZ : Sep _ _ _ _ := dg
 refine obl rfl ((zu (f := 44) (vals := [Iv 2]) (cap := []) rfl rfl Tryd.call44 (YH (p := 2) dc fZ) ?_))
 rintro _ w211 ⟨t, u, rfl, ga⟩
 exact fun s C M => ⟨(Exists.intro t (Exists.intro u (And.intro C ga))), trivial⟩
 obtain ⟨F, Y, gc⟩ := dg
 refine obl rfl ((zu (f := 44) (vals := [Iv 2]) (cap := []) rfl rfl Tryd.call44 (YH (p := 2) dc gc) ?_))
 rintro _ w216 ⟨t, u, rfl, gd⟩
 have ge := gd.mv2
 exact fun s C M => ⟨(Exists.intro t (Exists.intro u (Exists.intro F (And.intro C (And.intro ((M 4 dc).trans Y) ge))))), trivial⟩
 intro ju vals w220 gf dh hA221
 have bp : ju ∈ [0, 1] := gf
 simp only [List.mem_cons, List.not_mem_nil, or_false] at bp
 rcases bp with rfl | rfl
 have gg : Sep _ _ _ _ := dh
 exact obl rfl (zl (k := 10) Tryd.isAgg59 Tryd.sizeOf59 rfl rfl (CellsAt.all (gg.blk (i := 2) rfl)) dR)
 obtain ⟨t, u, R, gh⟩ := dh
 exact obl rfl (zl (k := 10) Tryd.isAgg59 Tryd.sizeOf59 rfl rfl (CellsAt.all (gh.blk (i := 4) rfl)) dR)
 intro jv vals w227 gi di hA228
 have bq : jv ∈ [0, 1] := gi
 simp only [List.mem_cons, List.not_mem_nil, or_false] at bq
 rcases bq with rfl | rfl
 have gj : Sep _ _ _ _ := di
 exact obl rfl (zl (k := 10) Tryd.isAgg59 Tryd.sizeOf59 rfl rfl (CellsAt.all (gj.blk (i := 1) rfl)) dR)
 obtain ⟨t, u, R, gk⟩ := di
 exact obl rfl (zl (k := 10) Tryd.isAgg59 Tryd.sizeOf59 rfl rfl (CellsAt.all (gk.blk (i := 3) rfl)) dR)
 intro jw vals w234 gl dj hA235
 have br : jw ∈ [0, 1] := gl
 simp only [List.mem_cons, List.not_mem_nil, or_false] at br
 rcases br with rfl | rfl
 have gm : Sep _ _ _ _ := dj
 exact obl rfl (zl (k := 10) Tryd.isAgg59 Tryd.sizeOf59 rfl rfl (CellsAt.all (gm.blk (i := 0) rfl)) dR)
 obtain ⟨t, u, R, gn⟩ := dj
 exact obl rfl (zl (k := 10) Tryd.isAgg59 Tryd.sizeOf59 rfl rfl (CellsAt.all (gn.blk (i := 2) rfl)) dR)
 intro jx vals w241 go dk Z
 have bs : jx ∈ [0, 1] := go
 simp only [List.mem_cons, List.not_mem_nil, or_false] at bs
 rcases bs with rfl | rfl
 have gp : Sep _ _ _ _ := dk
 refine obl rfl ((zD (k := 10) (parts' := [(0, .agg (evA.cells (Iy b2 2 2)).toArray), (1, .agg (evB.cells (Iy g 2 2)).toArray), (2, .agg (evC.cells (Iy m 2 2)).toArray)]) (c := (evA.cells (Iy b2 2 2) ++ evB.cells (Iy g 2 2) ++ evC.cells (Iy m 2 2)).toArray) Tryd.underlying47 Tryd.sizeOf59 Tryd.zeroValue59 dc (xF ⟨rfl, (Z 1 dc), rfl, (Z 2 dc), rfl, (Z 3 dc), trivial⟩) kr ?_))
 intro w251 F gq
 have gr := gp.new gq
 exact fun s C M => ⟨(Exists.intro F (And.intro C gr)), trivial⟩
 obtain ⟨t, u, R, gs⟩ := dk
 refine obl rfl ((zD (k := 10) (parts' := [(0, .agg (evA.cells (Iy b2 2 2)).toArray), (1, .agg (evB.cells (Iy g 2 2)).toArray), (2, .agg (evC.cells (Iy m 2 2)).toArray)]) (c := (evA.cells (Iy b2 2 2) ++ evB.cells (Iy g 2 2) ++ evC.cells (Iy m 2 2)).toArray) Tryd.underlying47 Tryd.sizeOf59 Tryd.zeroValue59 dc (xF ⟨rfl, (Z 1 dc), rfl, (Z 2 dc), rfl, (Z 3 dc), trivial⟩) kr ?_))
 intro w259 F gt
 have gu := gs.new gt
 exact fun s C M => ⟨(Exists.intro t (Exists.intro u (Exists.intro F (And.intro ((M 0 dc).trans R) (And.intro C gu))))), trivial⟩
 intro jy vals U gv gw hA263
 have bt : jy ∈ [3] := gv
 simp only [List.mem_cons, List.not_mem_nil, or_false] at bt
 subst bt
 obtain ⟨t, u, F, R, Y, gx⟩ := gw
 refine obl rfl ?_
 have gy := gx.mv2
 have dl : Sep O L ((RowE (α := Fld) (shr O L) 79 (Iy u 1 1) [(⟨2, 2, false, []⟩ : Fld)]) :: (Blk F (evA.cells (Iy b2 2 2) ++ evB.cells (Iy g 2 2) ++ evC.cells (Iy m 2 2)).toArray 59) :: (Blk t #[(Iy u 1 1)] 33) :: (Blk Q (evC.cells (Iy m 2 2)).toArray 59) :: (Blk P (evB.cells (Iy g 2 2)).toArray 59) :: (Blk N (evA.cells (Iy b2 2 2)).toArray 59) :: Rs) U := Sep.blkRow (src := (shr O L)) (l := [(⟨2, 2, false, []⟩ : Fld)]) (css := [(⟨2, 2, false, []⟩ : Fld).cells (Iz)]) gy rfl ⟨fun _ _ => ⟨_, rfl, (RdS.nil _ _), (show Fld.Ok (⟨2, 2, false, []⟩ : Fld) from ⟨by decide, by decide⟩)⟩, trivial⟩ (by first | decide | (simp only [List.length_cons, List.length_nil]; decide))
 have gz := dl.row (i := 0) rfl
 have hr269s : _ * 48 ≤ _ := gz.2
 obtain ⟨cK, gA, ae, gB, gC⟩ := dl.lend
 have bu := RowE.rdB gA ae
 have hrd276s : _ * 48 ≤ _ := bu.small
 have gD := gB.mv1
 have dm : Sep cK U ((RowE (α := Typ) (shr cK U) 33 (Iy t 1 1) [(⟨[(⟨2, 2, false, []⟩ : Fld)]⟩ : Typ)]) :: (Blk F (evA.cells (Iy b2 2 2) ++ evB.cells (Iy g 2 2) ++ evC.cells (Iy m 2 2)).toArray 59) :: (Blk Q (evC.cells (Iy m 2 2)).toArray 59) :: (Blk P (evB.cells (Iy g 2 2)).toArray 59) :: (Blk N (evA.cells (Iy b2 2 2)).toArray 59) :: Rs) U := Sep.blkRow (src := (shr cK U)) (l := [(⟨[(⟨2, 2, false, []⟩ : Fld)]⟩ : Typ)]) (css := [(⟨[(⟨2, 2, false, []⟩ : Fld)]⟩ : Typ).cells (Iy u 1 1)]) gD rfl ⟨fun _ _ => ⟨_, rfl, bu, (show Typ.Ok (⟨[(⟨2, 2, false, []⟩ : Fld)]⟩ : Typ) from ⟨⟩)⟩, trivial⟩ (by first | decide | (simp only [List.length_cons, List.length_nil]; decide))
 have gE := dm.row (i := 0) rfl
 have hr279s : _ * 24 ≤ _ := gE.2
 obtain ⟨cL, gF, af, gG, gH⟩ := dm.lend
 have bv := RowE.rdB gF af
 have hrd286s : _ * 24 ≤ _ := bv.small
 have dq : Sep cL U ((RowE (α := Ev) (shr cL U) 59 (Iy F 3 3) [evA, evB, evC]) :: (Blk Q (evC.cells (Iy m 2 2)).toArray 59) :: (Blk P (evB.cells (Iy g 2 2)).toArray 59) :: (Blk N (evA.cells (Iy b2 2 2)).toArray 59) :: Rs) U := Sep.blkRow (src := (shr cL U)) (l := [evA, evB, evC]) (css := [evA.cells (Iy b2 2 2), evB.cells (Iy g 2 2), evC.cells (Iy m 2 2)]) gG rfl ⟨fun _ _ => ⟨_, rfl, (RdS.base (RdS.base aC ae) af), dd⟩, fun _ _ => ⟨_, rfl, (RdS.base (RdS.base (RdS.base bf ak) ae) af), de⟩, fun _ _ => ⟨_, rfl, (RdS.base (RdS.base (RdS.base (RdS.base bd be) ak) ae) af), df⟩, trivial⟩ (by first | decide | (simp only [List.length_cons, List.length_nil]; decide))
 have gI := dq.row (i := 0) rfl
 have hr288s : _ * 96 ≤ _ := gI.2
 obtain ⟨G289, gJ, bg, gK, gL⟩ := dq.lend
 have bw := RowE.rdB gJ bg
 have hrd295s : _ * 96 ≤ _ := bw.small
 refine (zu (f := 38) (vals := [.agg ((ym 2).cells (Iy t 1 1) (Iz)).toArray, (Iy F 3 3)]) (cap := []) rfl (yP ⟨R, Y, trivial⟩) Tryd.call38 (UM (d := (ym 2)) (l := [evA, evB, evC]) (vl := (Iy F 3 3)) (RdS.base bv bg) (RdS.nil _ _) (show Dcl.Ok (ym 2) from ⟨⟩) bw (RdS.base (RdS.base (RdS.base (RdS.base (RdS.base (RdS.base hKN ef) be) ak) ae) af) bg) gK ((VV _)) (dc)) ?_)
 rintro _ w297 ⟨x, rfl, gM⟩
 have gN := gL _ _ gM
 have gO := gH _ _ gN
 have gP := gC _ _ gO
 have gQ := gP.s7_adefg
 exact fun s C M => ⟨(Exists.intro t (Exists.intro u (Exists.intro F (Exists.intro x (And.intro ((M 0 dc).trans R) (And.intro ((M 4 dc).trans Y) (And.intro C gQ))))))), trivial⟩
 intro jz vals w304 gR gS hA305
 have bx : jz ∈ [7] := gR
 simp only [List.mem_cons, List.not_mem_nil, or_false] at bx
 subst bx
 obtain ⟨t, u, F, x, R, Y, az, hS308⟩ := gS
 refine obl rfl (ze (v := Ix x 0) az (fun s C M => ⟨rfl, ?_⟩))
 intro b189q ad
 rw [M 5 (by decide)] at ad; cases az.symm.trans ad
 exact C
 intro vals w309 gT gU
 obtain ⟨t, u, F, x, R, Y, az, gV⟩ := gT
 have jA : vals 6 = (Ix x 0 : Value) := gU 6 dc x az
 refine yf (kv := [(0, .bool false), (12, (Iy b2 2 2)), (13, .agg ((⟨0, 1, 1, [0, 0], 0, 0, 0, 2, 1, 0⟩ : Ev).cells (Iy b2 2 2)).toArray), (1, Ix N 0), (14, (Iy g 2 2)), (15, .agg ((⟨1, 1, 2, [0, 0], 0, 0, 0, 2, 2, 0⟩ : Ev).cells (Iy g 2 2)).toArray), (2, Ix P 0), (16, (Iy m 2 2)), (17, .agg ((⟨1, 2, 3, [0, 1], 0, 0, 0, 2, 3, 0⟩ : Ev).cells (Iy m 2 2)).toArray), (3, Ix Q 0), (4, Ix x 0)]) ⟨rfl, rfl, rfl, rfl, rfl, rfl, rfl, rfl, rfl, rfl, (by exact jA), trivial⟩ (fun ρw309 => (zf (zd ?_)))
 have gW := gV.s5_bcde
 have dr := gW.s4_bcda
 generalize gX : ((ViewO x (ym 2) kx kx) :: Rs) = bh at dr
 refine WD6 ((fun TT X => WF [fun vals T => Sep O L (X :: TT) T, fun vals T => ∃ (y : Nat) (z : Nat), (vals 0 = (.agg #[(Iy y 1 1), Iz] : Value)) ∧ Sep O L ((Blk y #[(Iy z 1 1)] 33) :: (Blk z #[Iv 2, Iv 3, .bool false, Iz] 79) :: X :: TT) T, fun vals T => ∃ (H : Nat), (vals 4 = ((Iy H 3 3) : Value)) ∧ Sep O L ((Blk H (evB.cells (Iy g 2 2) ++ evA.cells (Iy b2 2 2) ++ evC.cells (Iy m 2 2)).toArray 59) :: X :: TT) T, fun vals T => ∃ (y : Nat) (z : Nat) (H : Nat), (vals 0 = (.agg #[(Iy y 1 1), Iz] : Value)) ∧ (vals 4 = ((Iy H 3 3) : Value)) ∧ Sep O L ((Blk H (evB.cells (Iy g 2 2) ++ evA.cells (Iy b2 2 2) ++ evC.cells (Iy m 2 2)).toArray 59) :: (Blk y #[(Iy z 1 1)] 33) :: (Blk z #[Iv 2, Iv 3, .bool false, Iz] 79) :: X :: TT) T, fun _ _ => True, fun _ _ => True, fun _ _ => True, fun vals T => ∃ (y : Nat) (z : Nat) (H : Nat) (B : Nat), (vals 0 = (.agg #[(Iy y 1 1), Iz] : Value)) ∧ (vals 4 = ((Iy H 3 3) : Value)) ∧ (vals 5 = (Ix B 0 : Value)) ∧ Sep O L ((RowE (α := Fld) (shr O L) 79 (Iy z 1 1) [(⟨2, 3, false, []⟩ : Fld)]) :: (ViewO B (ym 3) ky ky) :: X :: TT) T]) ((Blk P (evB.cells (Iy g 2 2)).toArray 59) :: (Blk N (evA.cells (Iy b2 2 2)).toArray 59) :: bh) (Blk Q (evC.cells (Iy m 2 2)).toArray 59)) (AF [fun _ => True, Vl 1 (.agg (evB.cells (Iy g 2 2)).toArray), Vl 2 (.agg (evA.cells (Iy b2 2 2)).toArray), Vl 3 (.agg (evC.cells (Iy m 2 2)).toArray), fun _ => True, fun _ => True, fun vals => ∀ (B : Nat), vals 5 = (Ix B 0 : Value) → vals 6 = (Ix B 0 : Value)]) [[], [], [], [], [1, 2, 3], (rg 5), (rg 6)] [0, 4, 5] [[0, 2], [0, 1], [0, 1], [0, 1], [0, 1], [3], [7]] dr ⟨?_, ?_, ?_, ?_, ?_, ?_, ?_, trivial⟩ ?_ (hlocA := yZ ⟨dT, dA, dA, dA, dT, dT, fun vals s C h => fun B ad => (C 6 (.inl rfl)).trans (h B ((C 5 (.inr dc)).symm.trans ad)), trivial⟩)
 intro jB vals w419 gY ds hA420
 have bz : jB ∈ [0, 2] := gY
 simp only [List.mem_cons, List.not_mem_nil, or_false] at bz
 rcases bz with rfl | rfl
 have gZ : Sep _ _ _ _ := ds
 refine obl rfl ((zu (f := 44) (vals := [Iv 3]) (cap := []) rfl rfl Tryd.call44 (YH (p := 3) dc gZ) ?_))
 rintro _ w426 ⟨y, z, rfl, ha⟩
 exact fun s C M => ⟨(Exists.intro y (Exists.intro z (And.intro C ha))), trivial⟩
 obtain ⟨H, aa, hc⟩ := ds
 refine obl rfl ((zu (f := 44) (vals := [Iv 3]) (cap := []) rfl rfl Tryd.call44 (YH (p := 3) dc hc) ?_))
 rintro _ w431 ⟨y, z, rfl, hd⟩
 have he := hd.mv2
 exact fun s C M => ⟨(Exists.intro y (Exists.intro z (Exists.intro H (And.intro C (And.intro ((M 4 dc).trans aa) he))))), trivial⟩
 intro jC vals w435 hf dt hA436
 have bA : jC ∈ [0, 1] := hf
 simp only [List.mem_cons, List.not_mem_nil, or_false] at bA
 rcases bA with rfl | rfl
 have hg : Sep _ _ _ _ := dt
 exact obl rfl (zl (k := 10) Tryd.isAgg59 Tryd.sizeOf59 rfl rfl (CellsAt.all (hg.blk (i := 1) rfl)) dR)
 obtain ⟨y, z, S, hh⟩ := dt
 exact obl rfl (zl (k := 10) Tryd.isAgg59 Tryd.sizeOf59 rfl rfl (CellsAt.all (hh.blk (i := 3) rfl)) dR)
 intro jD vals w442 hi du hA443
 have bB : jD ∈ [0, 1] := hi
 simp only [List.mem_cons, List.not_mem_nil, or_false] at bB
 rcases bB with rfl | rfl
 have hj : Sep _ _ _ _ := du
 exact obl rfl (zl (k := 10) Tryd.isAgg59 Tryd.sizeOf59 rfl rfl (CellsAt.all (hj.blk (i := 2) rfl)) dR)
 obtain ⟨y, z, S, hk⟩ := du
 exact obl rfl (zl (k := 10) Tryd.isAgg59 Tryd.sizeOf59 rfl rfl (CellsAt.all (hk.blk (i := 4) rfl)) dR)
 intro jE vals w449 hl dv hA450
 have bC : jE ∈ [0, 1] := hl
 simp only [List.mem_cons, List.not_mem_nil, or_false] at bC
 rcases bC with rfl | rfl
 have hm : Sep _ _ _ _ := dv
 exact obl rfl (zl (k := 10) Tryd.isAgg59 Tryd.sizeOf59 rfl rfl (CellsAt.all (hm.blk (i := 0) rfl)) dR)
 obtain ⟨y, z, S, hn⟩ := dv
 exact obl rfl (zl (k := 10) Tryd.isAgg59 Tryd.sizeOf59 rfl rfl (CellsAt.all (hn.blk (i := 2) rfl)) dR)
 intro jF vals w456 ho dw ab
 have bD : jF ∈ [0, 1] := ho
 simp only [List.mem_cons, List.not_mem_nil, or_false] at bD
 rcases bD with rfl | rfl
 have hp : Sep _ _ _ _ := dw
 refine obl rfl ((zD (k := 10) (parts' := [(0, .agg (evB.cells (Iy g 2 2)).toArray), (1, .agg (evA.cells (Iy b2 2 2)).toArray), (2, .agg (evC.cells (Iy m 2 2)).toArray)]) (c := (evB.cells (Iy g 2 2) ++ evA.cells (Iy b2 2 2) ++ evC.cells (Iy m 2 2)).toArray) Tryd.underlying47 Tryd.sizeOf59 Tryd.zeroValue59 dc (xF ⟨rfl, (ab 1 dc), rfl, (ab 2 dc), rfl, (ab 3 dc), trivial⟩) kr ?_))
 intro w466 H hq
 have hr := hp.new hq
 exact fun s C M => ⟨(Exists.intro H (And.intro C hr)), trivial⟩
 obtain ⟨y, z, S, hs⟩ := dw
 refine obl rfl ((zD (k := 10) (parts' := [(0, .agg (evB.cells (Iy g 2 2)).toArray), (1, .agg (evA.cells (Iy b2 2 2)).toArray), (2, .agg (evC.cells (Iy m 2 2)).toArray)]) (c := (evB.cells (Iy g 2 2) ++ evA.cells (Iy b2 2 2) ++ evC.cells (Iy m 2 2)).toArray) Tryd.underlying47 Tryd.sizeOf59 Tryd.zeroValue59 dc (xF ⟨rfl, (ab 1 dc), rfl, (ab 2 dc), rfl, (ab 3 dc), trivial⟩) kr ?_))
 intro w474 H ht
 have hu := hs.new ht
 exact fun s C M => ⟨(Exists.intro y (Exists.intro z (Exists.intro H (And.intro ((M 0 dc).trans S) (And.intro C hu))))), trivial⟩
 intro jG vals V hw hx hA478
 have bE : jG ∈ [3] := hw
 simp only [List.mem_cons, List.not_mem_nil, or_false] at bE
 subst bE
 obtain ⟨y, z, H, S, aa, hy⟩ := hx
 refine obl rfl ?_
 have hz := hy.mv2
 have dx : Sep O L ((RowE (α := Fld) (shr O L) 79 (Iy z 1 1) [(⟨2, 3, false, []⟩ : Fld)]) :: (Blk H (evB.cells (Iy g 2 2) ++ evA.cells (Iy b2 2 2) ++ evC.cells (Iy m 2 2)).toArray 59) :: (Blk y #[(Iy z 1 1)] 33) :: (Blk Q (evC.cells (Iy m 2 2)).toArray 59) :: (Blk P (evB.cells (Iy g 2 2)).toArray 59) :: (Blk N (evA.cells (Iy b2 2 2)).toArray 59) :: bh) V := Sep.blkRow (src := (shr O L)) (l := [(⟨2, 3, false, []⟩ : Fld)]) (css := [(⟨2, 3, false, []⟩ : Fld).cells (Iz)]) hz rfl ⟨fun _ _ => ⟨_, rfl, (RdS.nil _ _), (show Fld.Ok (⟨2, 3, false, []⟩ : Fld) from ⟨by decide, by decide⟩)⟩, trivial⟩ (by first | decide | (simp only [List.length_cons, List.length_nil]; decide))
 have hA := dx.row (i := 0) rfl
 have hr484s : _ * 48 ≤ _ := hA.2
 obtain ⟨cM, hB, ag, hC, hD⟩ := dx.lend
 have bF := RowE.rdB hB ag
 have hrd491s : _ * 48 ≤ _ := bF.small
 have hE := hC.mv1
 have dy : Sep cM V ((RowE (α := Typ) (shr cM V) 33 (Iy y 1 1) [(⟨[(⟨2, 3, false, []⟩ : Fld)]⟩ : Typ)]) :: (Blk H (evB.cells (Iy g 2 2) ++ evA.cells (Iy b2 2 2) ++ evC.cells (Iy m 2 2)).toArray 59) :: (Blk Q (evC.cells (Iy m 2 2)).toArray 59) :: (Blk P (evB.cells (Iy g 2 2)).toArray 59) :: (Blk N (evA.cells (Iy b2 2 2)).toArray 59) :: bh) V := Sep.blkRow (src := (shr cM V)) (l := [(⟨[(⟨2, 3, false, []⟩ : Fld)]⟩ : Typ)]) (css := [(⟨[(⟨2, 3, false, []⟩ : Fld)]⟩ : Typ).cells (Iy z 1 1)]) hE rfl ⟨fun _ _ => ⟨_, rfl, bF, (show Typ.Ok (⟨[(⟨2, 3, false, []⟩ : Fld)]⟩ : Typ) from ⟨⟩)⟩, trivial⟩ (by first | decide | (simp only [List.length_cons, List.length_nil]; decide))
 have hF := dy.row (i := 0) rfl
 have hr494s : _ * 24 ≤ _ := hF.2
 obtain ⟨cN, hG, ah, hH, hI⟩ := dy.lend
 have bG := RowE.rdB hG ah
 have hrd501s : _ * 24 ≤ _ := bG.small
 have dz : Sep cN V ((RowE (α := Ev) (shr cN V) 59 (Iy H 3 3) [evB, evA, evC]) :: (Blk Q (evC.cells (Iy m 2 2)).toArray 59) :: (Blk P (evB.cells (Iy g 2 2)).toArray 59) :: (Blk N (evA.cells (Iy b2 2 2)).toArray 59) :: bh) V := Sep.blkRow (src := (shr cN V)) (l := [evB, evA, evC]) (css := [evB.cells (Iy g 2 2), evA.cells (Iy b2 2 2), evC.cells (Iy m 2 2)]) hH rfl ⟨fun _ _ => ⟨_, rfl, (RdS.base (RdS.base (RdS.base bf ak) ag) ah), de⟩, fun _ _ => ⟨_, rfl, (RdS.base (RdS.base aC ag) ah), dd⟩, fun _ _ => ⟨_, rfl, (RdS.base (RdS.base (RdS.base (RdS.base bd be) ak) ag) ah), df⟩, trivial⟩ (by first | decide | (simp only [List.length_cons, List.length_nil]; decide))
 have hJ := dz.row (i := 0) rfl
 have hr503s : _ * 96 ≤ _ := hJ.2
 obtain ⟨G504, hK, bi, hL, hM⟩ := dz.lend
 have bH := RowE.rdB hK bi
 have hrd510s : _ * 96 ≤ _ := bH.small
 refine (zu (f := 38) (vals := [.agg ((ym 3).cells (Iy y 1 1) (Iz)).toArray, (Iy H 3 3)]) (cap := []) rfl (yP ⟨S, aa, trivial⟩) Tryd.call38 (UM (d := (ym 3)) (l := [evB, evA, evC]) (vl := (Iy H 3 3)) (RdS.base bG bi) (RdS.nil _ _) (show Dcl.Ok (ym 3) from ⟨⟩) bH (RdS.base (RdS.base (RdS.base (RdS.base (RdS.base (RdS.base hKN ef) be) ak) ag) ah) bi) hL ((VV _)) (dc)) ?_)
 rintro _ w512 ⟨B, rfl, hN⟩
 have hO := hM _ _ hN
 have hP := hI _ _ hO
 have hQ := hD _ _ hP
 have hR := hQ.s7_adefg
 exact fun s C M => ⟨(Exists.intro y (Exists.intro z (Exists.intro H (Exists.intro B (And.intro ((M 0 dc).trans S) (And.intro ((M 4 dc).trans aa) (And.intro C hR))))))), trivial⟩
 intro jH vals w519 hS hT hA520
 have bI : jH ∈ [7] := hS
 simp only [List.mem_cons, List.not_mem_nil, or_false] at bI
 subst bI
 obtain ⟨y, z, H, B, S, aa, aA, hS523⟩ := hT
 refine obl rfl (ze (v := Ix B 0) aA (fun s C M => ⟨rfl, ?_⟩))
 intro b404q ad
 rw [M 5 (by decide)] at ad; cases aA.symm.trans ad
 exact C
 intro vals jI hU hV
 obtain ⟨y, z, H, B, S, aa, aA, dB⟩ := hU
 have jJ : vals 6 = (Ix B 0 : Value) := hV 6 dc B aA
 refine yf (kv := [(0, .bool false), (12, (Iy b2 2 2)), (13, .agg ((⟨0, 1, 1, [0, 0], 0, 0, 0, 2, 1, 0⟩ : Ev).cells (Iy b2 2 2)).toArray), (1, Ix N 0), (14, (Iy g 2 2)), (15, .agg ((⟨1, 1, 2, [0, 0], 0, 0, 0, 2, 2, 0⟩ : Ev).cells (Iy g 2 2)).toArray), (2, Ix P 0), (16, (Iy m 2 2)), (17, .agg ((⟨1, 2, 3, [0, 1], 0, 0, 0, 2, 3, 0⟩ : Ev).cells (Iy m 2 2)).toArray), (3, Ix Q 0), (4, Ix x 0), (5, Ix B 0)]) ⟨rfl, rfl, rfl, rfl, rfl, rfl, rfl, rfl, rfl, rfl, rfl, (by exact jJ), trivial⟩ (fun ρw524 => (zf (zd (zd ?_))))
 rw [← gX] at dB
 have hW := dB.s6_bcdef
 have dC := hW.s5_aebcd
 generalize hX : ((Blk Q (evC.cells (Iy m 2 2)).toArray 59) :: (Blk P (evB.cells (Iy g 2 2)).toArray 59) :: (Blk N (evA.cells (Iy b2 2 2)).toArray 59) :: Rs) = jK at dC
 have hY : Sep O L ((ViewO B (ym 3) ky ky) :: (ViewO x (ym 2) kx kx) :: jK) jI := dC
 refine zF kr (st (zb (v := Ix x 0) rfl (st (Yi (b := x) (o := 0) Tryd.underlying51 rfl (st (zb (v := .bool false) rfl (sty rfl rfl (zb (v := Ix B 0) rfl (sty rfl rfl (Yi (b := B) (o := 0) Tryd.underlying51 rfl (st (yg (v := .bool false) rfl rfl (zf (zn rfl (zv (zd (za kr (fun _ => (st (zb (v := Ix x 0) rfl ?_))))))))))))))))))))
 have hZ := hY.mv1
 refine st (zu (f := 36) (vals := [Ix x 0]) (cap := []) rfl rfl Tryd.call36 (Zb  hZ) ?_)
 rintro q w536 ⟨_, rfl, dD⟩
 have dE := dD.row (i := 1) rfl
 have hr538s : _ * 120 ≤ _ := dE.2
 refine st (ze (v := q) rfl (zf (zd (za kr (fun _ => (st (zb (v := Ix B 0) rfl ?_)))))))
 have ia := dD.mv2
 refine st (zu (f := 36) (vals := [Ix B 0]) (cap := []) rfl rfl Tryd.call36 (Zb  ia) ?_)
 rintro A w541 ⟨_, rfl, dF⟩
 have dG := dF.row (i := 1) rfl
 have hr543s : _ * 120 ≤ _ := dG.2
 refine st (ze (v := A) rfl (zf (zd (za kr (fun _ => (st (zb (v := Ix x 0) rfl ?_)))))))
 have ib := dF.mv2
 refine st (zu (f := 32) (vals := [Ix x 0, Iv 0, Iv 0]) (cap := []) rfl rfl Tryd.call32 (Yb (ty := 0) (no := 0) dc dc ib) ?_)
 rintro _ w546 ⟨J, rfl, dH⟩
 have bj := dH.row (i := 1) rfl
 have hr548s : _ * 32 ≤ _ := bj.2
 refine st (zb (v := .tuple #[.agg ((yb (ym 2) (0, 0) kx).cells J).toArray, .bool ((zp (ym 2) kx (0, 0)).isSome)]) rfl (st (zE (vs := [.agg ((yb (ym 2) (0, 0) kx).cells J).toArray, .bool ((zp (ym 2) kx (0, 0)).isSome)]) (i := 0) (v := .agg ((yb (ym 2) (0, 0) kx).cells J).toArray) rfl rfl (st (zE (vs := [.agg ((yb (ym 2) (0, 0) kx).cells J).toArray, .bool ((zp (ym 2) kx (0, 0)).isSome)]) (i := 1) (v := .bool ((zp (ym 2) kx (0, 0)).isSome)) rfl rfl (st (zB Tryd.zeroValue68 ?_)))))))
 intro w551 aD ic
 have dI := dH.new ic
 refine stn (zy (v := .agg ((yb (ym 2) (0, 0) kx).cells J).toArray) (c' := ((yb (ym 2) (0, 0) kx).cells J).toArray) Tryd.sizeOf68 rfl rfl (dI.blk (i := 0) rfl) (ya ⟨rfl, bj.1.one, trivial⟩) (Nat.le_of_ble_eq_true rfl) rfl ?_)
 intro w553 id
 have ie := dI.pt0 id
 refine st (ze (v := .bool ((zp (ym 2) kx (0, 0)).isSome)) rfl (zf (zd (za kr (fun _ => (st (zb (v := Ix B 0) rfl ?_)))))))
 have ig := ie.mv3
 refine st (zu (f := 32) (vals := [Ix B 0, Iv 0, Iv 0]) (cap := []) rfl rfl Tryd.call32 (Yb (ty := 0) (no := 0) dc dc ig) ?_)
 rintro _ w558 ⟨K, rfl, dJ⟩
 have bk := dJ.row (i := 1) rfl
 have hr560s : _ * 32 ≤ _ := bk.2
 refine st (zb (v := .tuple #[.agg ((yb (ym 3) (0, 0) ky).cells K).toArray, .bool ((zp (ym 3) ky (0, 0)).isSome)]) rfl (st (zE (vs := [.agg ((yb (ym 3) (0, 0) ky).cells K).toArray, .bool ((zp (ym 3) ky (0, 0)).isSome)]) (i := 0) (v := .agg ((yb (ym 3) (0, 0) ky).cells K).toArray) rfl rfl (st (zE (vs := [.agg ((yb (ym 3) (0, 0) ky).cells K).toArray, .bool ((zp (ym 3) ky (0, 0)).isSome)]) (i := 1) (v := .bool ((zp (ym 3) ky (0, 0)).isSome)) rfl rfl (st (zB Tryd.zeroValue68 ?_)))))))
 intro w563 bl ih
 have dK := dJ.new ih
 refine stn (zy (v := .agg ((yb (ym 3) (0, 0) ky).cells K).toArray) (c' := ((yb (ym 3) (0, 0) ky).cells K).toArray) Tryd.sizeOf68 rfl rfl (dK.blk (i := 0) rfl) (ya ⟨rfl, bk.1.one, trivial⟩) (Nat.le_of_ble_eq_true rfl) rfl ?_)
 intro jL ii
 have aB := dK.pt0 ii
 refine st (ze (v := .bool ((zp (ym 3) ky (0, 0)).isSome)) rfl (zf (zd (zd (zF kr (st (zb (v := q) rfl (st (zJ (n := kx.length) Tryd.underlying66 rfl dE.1 (st (yq (k := .i64) (a := ((kx.length : Nat) : Int)) (b := 3) rfl rfl ?_)))))))))))
 have eg : (!decide (((kx.length : Nat) : Int) = 3)) = false := (by decide +kernel)
 rw [eg]
 refine st (zb (v := .bool false) rfl (sty rfl rfl (zb (v := A) rfl (sty rfl rfl (zJ (n := ky.length) Tryd.underlying66 rfl dG.1 (sty rfl rfl (yq (k := .i64) (a := ((ky.length : Nat) : Int)) (b := 3) rfl rfl ?_)))))))
 have eh : (!decide (((ky.length : Nat) : Int) = 3)) = false := (by decide +kernel)
 rw [eh]
 refine st (yg (v := .bool false) rfl rfl (st (zb (v := .bool false) rfl (sty rfl rfl (zb (v := .bool ((zp (ym 2) kx (0, 0)).isSome)) rfl (sty rfl rfl (yt (a := (zp (ym 2) kx (0, 0)).isSome) rfl ?_)))))))
 have ei : (!((zp (ym 2) kx (0, 0)).isSome)) = false := (by decide +kernel)
 rw [ei]
 refine st (yg (v := .bool false) rfl rfl (st (zb (v := .bool false) rfl (sty rfl rfl (zb (v := .bool ((zp (ym 3) ky (0, 0)).isSome)) rfl (sty rfl rfl (yt (a := (zp (ym 3) ky (0, 0)).isSome) rfl ?_)))))))
 have ej : (!((zp (ym 3) ky (0, 0)).isSome)) = false := (by decide +kernel)
 rw [ej]
 refine st (yg (v := .bool false) rfl rfl (st (zb (v := .bool false) rfl (sty rfl rfl (yF rfl (sty rfl rfl (zg (v := J) Tryd.isAgg26 rfl (zh (aB.blk (i := 3) rfl) rfl) (sty rfl rfl (zJ (n := (stL (ym 2) (0, 0) kx).length) Tryd.underlying26 rfl bj.1 (sty rfl rfl (yq (k := .i64) (a := (((stL (ym 2) (0, 0) kx).length : Nat) : Int)) (b := 1) rfl rfl ?_)))))))))))
 have ek : (!decide ((((stL (ym 2) (0, 0) kx).length : Nat) : Int) = 1)) = false := (by decide +kernel)
 rw [ek]
 refine st (yg (v := .bool false) rfl rfl (st (zb (v := .bool false) rfl (sty rfl rfl (yF rfl (sty rfl rfl (zg (v := K) Tryd.isAgg26 rfl (zh (aB.blk (i := 0) rfl) rfl) (sty rfl rfl (zJ (n := (stL (ym 3) (0, 0) ky).length) Tryd.underlying26 rfl bk.1 (sty rfl rfl (yq (k := .i64) (a := (((stL (ym 3) (0, 0) ky).length : Nat) : Int)) (b := 1) rfl rfl ?_)))))))))))
 have el : (!decide ((((stL (ym 3) (0, 0) ky).length : Nat) : Int) = 1)) = false := (by decide +kernel)
 rw [el]
 refine st (yg (v := .bool false) rfl rfl (zf (zn rfl (zv (zd ?_)))))
 rw [← hX] at aB
 have ij := aB.mv2
 obtain ⟨G575, ik, hB578, il, im⟩ := ij.lend
 have ai := RowE.rd ik
 have hrd581s : _ * 32 ≤ _ := ai.small
 have io := il.mv4
 obtain ⟨G583, ip, bm, iq, ir⟩ := io.lend
 have aj := RowE.rd ip
 have hrd589s : _ * 32 ≤ _ := aj.small
 have it := iq.mv4
 obtain ⟨G591, iu, ac, iv, iw⟩ := it.lend
 have I := RowE.rd iu
 have hrd597s : _ * 120 ≤ _ := I.small
 have ix := iv.mv4
 obtain ⟨jM, iy, E, iz, iA⟩ := ix.lend
 have D := RowE.rd iy
 have hrd605s : _ * 120 ≤ _ := D.small
 refine WD4 (WF [fun vals T => Sep jM jL ((Blk bl ((yb (ym 3) (0, 0) ky).cells K).toArray 68) :: (ViewO B (ym 3) ky ky) :: (Blk aD ((yb (ym 2) (0, 0) kx).cells J).toArray 68) :: (ViewO x (ym 2) kx kx) :: (Blk Q (evC.cells (Iy m 2 2)).toArray 59) :: (Blk P (evB.cells (Iy g 2 2)).toArray 59) :: (Blk N (evA.cells (Iy b2 2 2)).toArray 59) :: Rs) T]) (AF [Vl 0 (q), Vl 1 (Ix (sb q) (so q + 0 * 13)), Vl 2 (Ix (sb q) (so q + 0 * 13 + 10)), Vl 3 (.bool ((kx.getD 0 default).void)), Vl 4 (.bool true), Vl 5 (.bool true), Vl 6 (q), Vl 7 (Ix (sb q) (so q + 1 * 13)), Vl 8 (Ix (sb q) (so q + 1 * 13 + 10)), Vl 9 (.bool true), Vl 10 (.bool true), Vl 11 (.bool true), Vl 12 (q), Vl 13 (Ix (sb q) (so q + 1 * 13)), Vl 14 (Ix (sb q) (so q + 1 * 13 + 11)), Vl 15 (.agg #[Iv ((kx.getD 1 default).byO), Iv ((kx.getD 1 default).byS)]), Vl 16 (Ix N 0), Vl 17 (.agg #[Iv (evA.origin), Iv (evA.seq)]), Vl 18 (.bool true), Vl 19 (.bool true), Vl 20 (.bool true), Vl 21 (q), Vl 22 (Ix (sb q) (so q + 2 * 13)), Vl 23 (Ix (sb q) (so q + 2 * 13 + 10)), Vl 24 (.bool true), Vl 25 (.bool true), Vl 26 (.bool true), Vl 27 (q), Vl 28 (Ix (sb q) (so q + 2 * 13)), Vl 29 (Ix (sb q) (so q + 2 * 13 + 11)), Vl 30 (.agg #[Iv ((kx.getD 2 default).byO), Iv ((kx.getD 2 default).byS)]), Vl 31 (Ix N 0), Vl 32 (.agg #[Iv (evA.origin), Iv (evA.seq)]), Vl 33 (.bool true), Vl 34 (.bool true), Vl 35 (.bool true), Vl 36 (Ix aD 1), Vl 37 (J), Vl 38 (Ix (sb J) (so J + 0 * 2)), Vl 39 (Ix (sb J) (so J + 0 * 2)), Vl 40 (Iv (((stL (ym 2) (0, 0) kx).getD 0 default).n)), Vl 41 (.bool true), Vl 42 (.bool true), Vl 43 (.bool true), Vl 44 (Ix aD 0), Vl 45 (Iv ((yb (ym 2) (0, 0) kx).ver)), Vl 46 (.bool true), Vl 47 (.bool true), Vl 48 (.bool true), Vl 49 (A), Vl 50 (Ix (sb A) (so A + 0 * 13)), Vl 51 (Ix (sb A) (so A + 0 * 13 + 10)), Vl 52 (.bool ((ky.getD 0 default).void)), Vl 53 (.bool true), Vl 54 (.bool true), Vl 55 (.bool true), Vl 56 (A), Vl 57 (Ix (sb A) (so A + 1 * 13)), Vl 58 (Ix (sb A) (so A + 1 * 13 + 10)), Vl 59 (.bool true), Vl 60 (.bool true), Vl 61 (.bool true), Vl 62 (A), Vl 63 (Ix (sb A) (so A + 1 * 13)), Vl 64 (Ix (sb A) (so A + 1 * 13 + 11)), Vl 65 (.agg #[Iv ((ky.getD 1 default).byO), Iv ((ky.getD 1 default).byS)]), Vl 66 (Ix P 0), Vl 67 (.agg #[Iv (evB.origin), Iv (evB.seq)]), Vl 68 (.bool true), Vl 69 (.bool true), Vl 70 (.bool true), Vl 71 (A), Vl 72 (Ix (sb A) (so A + 2 * 13)), Vl 73 (Ix (sb A) (so A + 2 * 13 + 10)), Vl 74 (.bool ((ky.getD 2 default).void)), Vl 75 (.bool true), Vl 76 (.bool true), Vl 77 (.bool true), Vl 78 (Ix bl 1), Vl 79 (K), Vl 80 (Ix (sb K) (so K + 0 * 2)), Vl 81 (Ix (sb K) (so K + 0 * 2)), Vl 82 (Iv (((stL (ym 3) (0, 0) ky).getD 0 default).n)), Vl 83 (.bool true), Vl 84 (.bool true), Vl 85 (.bool true)]) [[], [0], [0, 1], [0, 1, 2], (rg 4), (rg 5), (rg 6), (rg 7), (rg 8), (rg 9), (rg 10), (rg 11), (rg 12), (rg 13), (rg 14), (rg 15), (rg 12), [0, 1, 2, 3, 4, 5, 6, 7, 8, 9, 10, 11, 16], (rg 18), (rg 19), (rg 20), (rg 21), (rg 22), (rg 23), (rg 24), (rg 25), (rg 26), (rg 27), (rg 28), (rg 29), (rg 30), (rg 27), [0, 1, 2, 3, 4, 5, 6, 7, 8, 9, 10, 11, 12, 13, 14, 15, 16, 17, 18, 19, 20, 21, 22, 23, 24, 25, 26, 31], (rg 33), (rg 34), (rg 35), (rg 36), (rg 37), (rg 38), (rg 39), (rg 40), (rg 41), (rg 42), (rg 43), (rg 44), (rg 45), (rg 46), (rg 47), (rg 48), (rg 49), (rg 50), (rg 51), (rg 52), (rg 53), (rg 54), (rg 55), (rg 56), (rg 57), (rg 58), (rg 59), (rg 60), (rg 61), (rg 62), (rg 63), (rg 64), (rg 65), (rg 62), [0, 1, 2, 3, 4, 5, 6, 7, 8, 9, 10, 11, 12, 13, 14, 15, 16, 17, 18, 19, 20, 21, 22, 23, 24, 25, 26, 27, 28, 29, 30, 31, 32, 33, 34, 35, 36, 37, 38, 39, 40, 41, 42, 43, 44, 45, 46, 47, 48, 49, 50, 51, 52, 53, 54, 55, 56, 57, 58, 59, 60, 61, 66], (rg 68), (rg 69), (rg 70), (rg 71), (rg 72), (rg 73), (rg 74), (rg 75), (rg 76), (rg 77), (rg 78), (rg 79), (rg 80), (rg 81), (rg 82), (rg 83), (rg 84), (rg 85)] [] [(0, 0), (0, 0), (0, 0), (0, 0), (0, 0), (0, 0), (0, 0), (0, 0), (0, 0), (0, 0), (0, 0), (0, 0), (0, 0), (0, 0), (0, 0), (0, 0), (0, 0), (0, 0), (0, 0), (0, 0), (0, 0), (0, 0), (0, 0), (0, 0), (0, 0), (0, 0), (0, 0), (0, 0), (0, 0), (0, 0), (0, 0), (0, 0), (0, 0), (0, 0), (0, 0), (0, 0), (0, 0), (0, 0), (0, 0), (0, 0), (0, 0), (0, 0), (0, 0), (0, 0), (0, 0), (0, 0), (0, 0), (0, 0), (0, 0), (0, 0), (0, 0), (0, 0), (0, 0), (0, 0), (0, 0), (0, 0), (0, 0), (0, 0), (0, 0), (0, 0), (0, 0), (0, 0), (0, 0), (0, 0), (0, 0), (0, 0), (0, 0), (0, 0), (0, 0), (0, 0), (0, 0), (0, 0), (0, 0), (0, 0), (0, 0), (0, 0), (0, 0), (0, 0), (0, 0), (0, 0), (0, 0), (0, 0), (0, 0), (0, 0), (0, 0), (0, 0)] iz ⟨?_, ?_, ?_, ?_, ?_, ?_, ?_, ?_, ?_, ?_, ?_, ?_, ?_, ?_, ?_, ?_, ?_, ?_, ?_, ?_, ?_, ?_, ?_, ?_, ?_, ?_, ?_, ?_, ?_, ?_, ?_, ?_, ?_, ?_, ?_, ?_, ?_, ?_, ?_, ?_, ?_, ?_, ?_, ?_, ?_, ?_, ?_, ?_, ?_, ?_, ?_, ?_, ?_, ?_, ?_, ?_, ?_, ?_, ?_, ?_, ?_, ?_, ?_, ?_, ?_, ?_, ?_, ?_, ?_, ?_, ?_, ?_, ?_, ?_, ?_, ?_, ?_, ?_, ?_, ?_, ?_, ?_, ?_, ?_, ?_, ?_, trivial⟩ ?_
 exact fun _ _ _ _ _ _ _ => obl rfl (zb (v := q) rfl dR)
 refine ob1 0 fun _ _ _ em => (obl rfl ?_)
 have en : 0 < kx.length := (by first | omega | decide +kernel)
 exact zk (k := 13) (i := 0) Tryd.underlying66 Tryd.sizeOf62 (em 0 dc) D.sl rfl en dR
 exact fun _ _ _ _ _ _ eo => obl rfl (xY (eo 1 dc) dR)
 refine ob1 0 fun _ _ (er : Sep _ _ _ _) es => (obl rfl ?_)
 have aE : 0 < kx.length := (by first | omega | decide +kernel)
 obtain ⟨aS, al, cO⟩ := D.ent aE
 rw [← zm default aE] at aS al cO
 have hsm1398 : ((kx.getD 0 default).ev.deps).length * 8 ≤ 140737488355328 := al.small
 have dL := er.cells aS (D.foot (ne_of_lt aE))
 exact zg (v := .bool ((kx.getD 0 default).void)) Tryd.isAgg4 (es 2 dc) (dL.get (j := 10) rfl) dR
 refine fun _ _ _ _ _ _ et => (obl rfl ?_)
 have eu : (!((kx.getD 0 default).void)) = true := by decide +kernel
 exact yt (a := (kx.getD 0 default).void) (et 3 dc) (fun s C _ => ⟨rfl, C.trans (congrArg Value.bool eu)⟩)
 exact fun _ _ _ _ _ _ ew => obl rfl (zb (v := .bool true) (ew 4 dc) dR)
 refine fun _ _ _ _ _ _ ex => (zN rfl rfl (ex 5 dc) (fun _ => ?_) (fun hb => absurd rfl hb))
 exact zb (v := q) rfl dR
 refine ob1 0 fun _ _ _ bJ => (zN rfl rfl (bJ 5 dc) (fun _ => ?_) (fun hb => absurd rfl hb))
 have ey : 1 < kx.length := (by first | omega | decide +kernel)
 exact zk (k := 13) (i := 1) Tryd.underlying66 Tryd.sizeOf62 (bJ 6 dc) D.sl rfl ey dR
 refine fun _ _ _ _ _ _ bK => (zN rfl rfl (bK 5 dc) (fun _ => ?_) (fun hb => absurd rfl hb))
 exact xY (bK 7 dc) dR
 refine ob1 0 fun _ _ (ez : Sep _ _ _ _) bL => (zN rfl rfl (bL 5 dc) (fun _ => ?_) (fun hb => absurd rfl hb))
 have aF : 1 < kx.length := (by first | omega | decide +kernel)
 obtain ⟨aT, am, cP⟩ := D.ent aF
 rw [← zm default aF] at aT am cP
 have hsm1451 : ((kx.getD 1 default).ev.deps).length * 8 ≤ 140737488355328 := am.small
 have dM := ez.cells aT (D.foot (ne_of_lt aF))
 have eA : ((kx.getD 1 default).void) = true := by decide +kernel
 exact zg (v := .bool ((kx.getD 1 default).void)) Tryd.isAgg4 (bL 8 dc) (dM.get (j := 10) rfl) (fun s C _ => ⟨rfl, C.trans (congrArg Value.bool eA)⟩)
 exact fun _ _ _ _ _ _ bM => obl rfl (zX (v := .bool true) (bM 5 dc) (bM 9 dc) dR)
 exact fun _ _ _ _ _ _ eB => obl rfl (zb (v := .bool true) (eB 10 dc) dR)
 refine fun _ _ _ _ _ _ eC => (zN rfl rfl (eC 11 dc) (fun _ => ?_) (fun hb => absurd rfl hb))
 exact zb (v := q) rfl dR
 refine ob1 0 fun _ _ _ bN => (zN rfl rfl (bN 11 dc) (fun _ => ?_) (fun hb => absurd rfl hb))
 have eD : 1 < kx.length := (by first | omega | decide +kernel)
 exact zk (k := 13) (i := 1) Tryd.underlying66 Tryd.sizeOf62 (bN 12 dc) D.sl rfl eD dR
 refine fun _ _ _ _ _ _ bO => (zN rfl rfl (bO 11 dc) (fun _ => ?_) (fun hb => absurd rfl hb))
 exact Xl (bO 13 dc) dR
 refine ob1 0 fun _ _ (eE : Sep _ _ _ _) bP => (zN rfl rfl (bP 11 dc) (fun _ => ?_) (fun hb => absurd rfl hb))
 have aG : 1 < kx.length := (by first | omega | decide +kernel)
 obtain ⟨aU, an, cQ⟩ := D.ent aG
 rw [← zm default aG] at aU an cQ
 have hsm1505 : ((kx.getD 1 default).ev.deps).length * 8 ≤ 140737488355328 := an.small
 have dN := eE.cells aU (D.foot (ne_of_lt aG))
 exact zl (k := 2) (cs := [Iv ((kx.getD 1 default).byO), Iv ((kx.getD 1 default).byS)]) Tryd.isAgg57 Tryd.sizeOf57 rfl (bP 14 dc) (CellsAt.sub dN 11 (cs2 := [Iv ((kx.getD 1 default).byO), Iv ((kx.getD 1 default).byS)]) rfl) dR
 refine fun _ _ _ _ _ _ eF => (zN rfl rfl (eF 11 dc) (fun _ => ?_) (fun hb => absurd rfl hb))
 exact yM rfl dR
 refine ob1 0 fun _ _ (eG : Sep _ _ _ _) bQ => (zN rfl rfl (bQ 11 dc) (fun _ => ?_) (fun hb => absurd rfl hb))
 exact zl (k := 2) (cs := [Iv (evA.origin), Iv (evA.seq)]) Tryd.isAgg57 Tryd.sizeOf57 rfl (bQ 16 dc) (CellsAt.sub (CellsAt.all (eG.blk (i := 6) rfl)) 0 (cs2 := [Iv (evA.origin), Iv (evA.seq)]) rfl) dR
 refine ob1 0 fun _ _ _ aH => (zN rfl rfl (aH 11 dc) (fun _ => ?_) (fun hb => absurd rfl hb))
 have eH : (decide ((kx.getD 1 default).byO = evA.origin ∧ (kx.getD 1 default).byS = evA.seq)) = true := by decide +kernel
 exact xW (e := decide ((kx.getD 1 default).byO = evA.origin ∧ (kx.getD 1 default).byS = evA.seq)) (xs := #[Iv ((kx.getD 1 default).byO), Iv ((kx.getD 1 default).byS)]) (ys := #[Iv (evA.origin), Iv (evA.seq)]) VT (aH 15 dc) (aH 17 dc) (fun s C _ => ⟨rfl, C.trans (congrArg Value.bool eH)⟩)
 exact fun _ _ _ _ _ _ bR => obl rfl (zX (v := .bool true) (bR 11 dc) (bR 18 dc) dR)
 exact fun _ _ _ _ _ _ eI => obl rfl (zb (v := .bool true) (eI 19 dc) dR)
 refine fun _ _ _ _ _ _ eJ => (zN rfl rfl (eJ 20 dc) (fun _ => ?_) (fun hb => absurd rfl hb))
 exact zb (v := q) rfl dR
 refine ob1 0 fun _ _ _ bS => (zN rfl rfl (bS 20 dc) (fun _ => ?_) (fun hb => absurd rfl hb))
 have eK : 2 < kx.length := (by first | omega | decide +kernel)
 exact zk (k := 13) (i := 2) Tryd.underlying66 Tryd.sizeOf62 (bS 21 dc) D.sl rfl eK dR
 refine fun _ _ _ _ _ _ bT => (zN rfl rfl (bT 20 dc) (fun _ => ?_) (fun hb => absurd rfl hb))
 exact xY (bT 22 dc) dR
 refine ob1 0 fun _ _ (eL : Sep _ _ _ _) bU => (zN rfl rfl (bU 20 dc) (fun _ => ?_) (fun hb => absurd rfl hb))
 have aI : 2 < kx.length := (by first | omega | decide +kernel)
 obtain ⟨aV, ao, cR⟩ := D.ent aI
 rw [← zm default aI] at aV ao cR
 have hsm1585 : ((kx.getD 2 default).ev.deps).length * 8 ≤ 140737488355328 := ao.small
 have dO := eL.cells aV (D.foot (ne_of_lt aI))
 have eM : ((kx.getD 2 default).void) = true := by decide +kernel
 exact zg (v := .bool ((kx.getD 2 default).void)) Tryd.isAgg4 (bU 23 dc) (dO.get (j := 10) rfl) (fun s C _ => ⟨rfl, C.trans (congrArg Value.bool eM)⟩)
 exact fun _ _ _ _ _ _ bV => obl rfl (zX (v := .bool true) (bV 20 dc) (bV 24 dc) dR)
 exact fun _ _ _ _ _ _ eN => obl rfl (zb (v := .bool true) (eN 25 dc) dR)
 refine fun _ _ _ _ _ _ eO => (zN rfl rfl (eO 26 dc) (fun _ => ?_) (fun hb => absurd rfl hb))
 exact zb (v := q) rfl dR
 refine ob1 0 fun _ _ _ bW => (zN rfl rfl (bW 26 dc) (fun _ => ?_) (fun hb => absurd rfl hb))
 have eP : 2 < kx.length := (by first | omega | decide +kernel)
 exact zk (k := 13) (i := 2) Tryd.underlying66 Tryd.sizeOf62 (bW 27 dc) D.sl rfl eP dR
 refine fun _ _ _ _ _ _ bX => (zN rfl rfl (bX 26 dc) (fun _ => ?_) (fun hb => absurd rfl hb))
 exact Xl (bX 28 dc) dR
 refine ob1 0 fun _ _ (eQ : Sep _ _ _ _) bY => (zN rfl rfl (bY 26 dc) (fun _ => ?_) (fun hb => absurd rfl hb))
 have aJ : 2 < kx.length := (by first | omega | decide +kernel)
 obtain ⟨aW, ap, cS⟩ := D.ent aJ
 rw [← zm default aJ] at aW ap cS
 have hsm1639 : ((kx.getD 2 default).ev.deps).length * 8 ≤ 140737488355328 := ap.small
 have dP := eQ.cells aW (D.foot (ne_of_lt aJ))
 exact zl (k := 2) (cs := [Iv ((kx.getD 2 default).byO), Iv ((kx.getD 2 default).byS)]) Tryd.isAgg57 Tryd.sizeOf57 rfl (bY 29 dc) (CellsAt.sub dP 11 (cs2 := [Iv ((kx.getD 2 default).byO), Iv ((kx.getD 2 default).byS)]) rfl) dR
 refine fun _ _ _ _ _ _ eR => (zN rfl rfl (eR 26 dc) (fun _ => ?_) (fun hb => absurd rfl hb))
 exact yM rfl dR
 refine ob1 0 fun _ _ (eS : Sep _ _ _ _) bZ => (zN rfl rfl (bZ 26 dc) (fun _ => ?_) (fun hb => absurd rfl hb))
 exact zl (k := 2) (cs := [Iv (evA.origin), Iv (evA.seq)]) Tryd.isAgg57 Tryd.sizeOf57 rfl (bZ 31 dc) (CellsAt.sub (CellsAt.all (eS.blk (i := 6) rfl)) 0 (cs2 := [Iv (evA.origin), Iv (evA.seq)]) rfl) dR
 refine ob1 0 fun _ _ _ aK => (zN rfl rfl (aK 26 dc) (fun _ => ?_) (fun hb => absurd rfl hb))
 have eT : (decide ((kx.getD 2 default).byO = evA.origin ∧ (kx.getD 2 default).byS = evA.seq)) = true := by decide +kernel
 exact xW (e := decide ((kx.getD 2 default).byO = evA.origin ∧ (kx.getD 2 default).byS = evA.seq)) (xs := #[Iv ((kx.getD 2 default).byO), Iv ((kx.getD 2 default).byS)]) (ys := #[Iv (evA.origin), Iv (evA.seq)]) VT (aK 30 dc) (aK 32 dc) (fun s C _ => ⟨rfl, C.trans (congrArg Value.bool eT)⟩)
 exact fun _ _ _ _ _ _ ca => obl rfl (zX (v := .bool true) (ca 26 dc) (ca 33 dc) dR)
 exact fun _ _ _ _ _ _ eU => obl rfl (zb (v := .bool true) (eU 34 dc) dR)
 refine fun _ _ _ _ _ _ eV => (zN rfl rfl (eV 35 dc) (fun _ => ?_) (fun hb => absurd rfl hb))
 exact yF rfl dR
 refine ob1 0 fun _ _ (eW : Sep _ _ _ _) cb => (zN rfl rfl (cb 35 dc) (fun _ => ?_) (fun hb => absurd rfl hb))
 exact zg (v := J) Tryd.isAgg26 (cb 36 dc) (zh (eW.blk (i := 2) rfl) rfl) dR
 refine ob1 0 fun _ _ _ cc => (zN rfl rfl (cc 35 dc) (fun _ => ?_) (fun hb => absurd rfl hb))
 have eX : 0 < (stL (ym 2) (0, 0) kx).length := (by first | omega | decide +kernel)
 exact zk (k := 2) (i := 0) Tryd.underlying26 Tryd.sizeOf42 (cc 37 dc) (RdS.base (RdS.base aj ac) E).sl rfl eX dR
 refine fun _ _ _ _ _ _ cd => (zN rfl rfl (cd 35 dc) (fun _ => ?_) (fun hb => absurd rfl hb))
 exact yL (cd 38 dc) dR
 refine ob1 0 fun _ _ (eY : Sep _ _ _ _) ce => (zN rfl rfl (ce 35 dc) (fun _ => ?_) (fun hb => absurd rfl hb))
 have aL : 0 < (stL (ym 2) (0, 0) kx).length := (by first | omega | decide +kernel)
 obtain ⟨aX, aq, cT⟩ := (RdS.base (RdS.base aj ac) E).cel aL
 rw [← zm default aL] at aX aq cT
 have hsm1728 : (((stL (ym 2) (0, 0) kx).getD 0 default).set).length * 8 ≤ 140737488355328 := aq.small
 have dQ := eY.cells aX ((RdS.base (RdS.base aj ac) E).foot (ne_of_lt aL))
 exact zg (v := Iv (((stL (ym 2) (0, 0) kx).getD 0 default).n)) Tryd.isAgg3 (ce 39 dc) (dQ.get (j := 0) rfl) dR
 refine ob1 0 fun _ _ _ cf => (zN rfl rfl (cf 35 dc) (fun _ => ?_) (fun hb => absurd rfl hb))
 have eZ : (decide ((((stL (ym 2) (0, 0) kx).getD 0 default).n) = 1)) = true := by decide +kernel
 exact zP (k := .i64) (a := ((stL (ym 2) (0, 0) kx).getD 0 default).n) (b := 1) (cf 40 dc) rfl (fun s C _ => ⟨rfl, C.trans (congrArg Value.bool eZ)⟩)
 exact fun _ _ _ _ _ _ cg => obl rfl (zX (v := .bool true) (cg 35 dc) (cg 41 dc) dR)
 exact fun _ _ _ _ _ _ fa => obl rfl (zb (v := .bool true) (fa 42 dc) dR)
 refine fun _ _ _ _ _ _ fb => (zN rfl rfl (fb 43 dc) (fun _ => ?_) (fun hb => absurd rfl hb))
 exact ZT rfl dR
 refine ob1 0 fun _ _ (fc : Sep _ _ _ _) ch => (zN rfl rfl (ch 43 dc) (fun _ => ?_) (fun hb => absurd rfl hb))
 exact zg (v := Iv ((yb (ym 2) (0, 0) kx).ver)) Tryd.isAgg3 (ch 44 dc) (zh (fc.blk (i := 2) rfl) rfl) dR
 refine ob1 0 fun _ _ _ ci => (zN rfl rfl (ci 43 dc) (fun _ => ?_) (fun hb => absurd rfl hb))
 have fd : (decide (((yb (ym 2) (0, 0) kx).ver) = 1)) = true := by decide +kernel
 exact zP (k := .i64) (a := (yb (ym 2) (0, 0) kx).ver) (b := 1) (ci 45 dc) rfl (fun s C _ => ⟨rfl, C.trans (congrArg Value.bool fd)⟩)
 exact fun _ _ _ _ _ _ cj => obl rfl (zX (v := .bool true) (cj 43 dc) (cj 46 dc) dR)
 exact fun _ _ _ _ _ _ fe => obl rfl (zb (v := .bool true) (fe 47 dc) dR)
 refine fun _ _ _ _ _ _ ff => (zN rfl rfl (ff 48 dc) (fun _ => ?_) (fun hb => absurd rfl hb))
 exact zb (v := A) rfl dR
 refine ob1 0 fun _ _ _ ck => (zN rfl rfl (ck 48 dc) (fun _ => ?_) (fun hb => absurd rfl hb))
 have fg : 0 < ky.length := (by first | omega | decide +kernel)
 exact zk (k := 13) (i := 0) Tryd.underlying66 Tryd.sizeOf62 (ck 49 dc) (RdS.base I E).sl rfl fg dR
 refine fun _ _ _ _ _ _ cl => (zN rfl rfl (cl 48 dc) (fun _ => ?_) (fun hb => absurd rfl hb))
 exact xY (cl 50 dc) dR
 refine ob1 0 fun _ _ (fh : Sep _ _ _ _) cm => (zN rfl rfl (cm 48 dc) (fun _ => ?_) (fun hb => absurd rfl hb))
 have aM : 0 < ky.length := (by first | omega | decide +kernel)
 obtain ⟨aY, au, cU⟩ := (RdS.base I E).ent aM
 rw [← zm default aM] at aY au cU
 have hsm1832 : ((ky.getD 0 default).ev.deps).length * 8 ≤ 140737488355328 := au.small
 have dS := fh.cells aY ((RdS.base I E).foot (ne_of_lt aM))
 exact zg (v := .bool ((ky.getD 0 default).void)) Tryd.isAgg4 (cm 51 dc) (dS.get (j := 10) rfl) dR
 refine fun _ _ _ _ _ _ cn => (zN rfl rfl (cn 48 dc) (fun _ => ?_) (fun hb => absurd rfl hb))
 have fi : (!((ky.getD 0 default).void)) = true := by decide +kernel
 exact yt (a := (ky.getD 0 default).void) (cn 52 dc) (fun s C _ => ⟨rfl, C.trans (congrArg Value.bool fi)⟩)
 exact fun _ _ _ _ _ _ co => obl rfl (zX (v := .bool true) (co 48 dc) (co 53 dc) dR)
 exact fun _ _ _ _ _ _ fj => obl rfl (zb (v := .bool true) (fj 54 dc) dR)
 refine fun _ _ _ _ _ _ fk => (zN rfl rfl (fk 55 dc) (fun _ => ?_) (fun hb => absurd rfl hb))
 exact zb (v := A) rfl dR
 refine ob1 0 fun _ _ _ cp => (zN rfl rfl (cp 55 dc) (fun _ => ?_) (fun hb => absurd rfl hb))
 have fl : 1 < ky.length := (by first | omega | decide +kernel)
 exact zk (k := 13) (i := 1) Tryd.underlying66 Tryd.sizeOf62 (cp 56 dc) (RdS.base I E).sl rfl fl dR
 refine fun _ _ _ _ _ _ cq => (zN rfl rfl (cq 55 dc) (fun _ => ?_) (fun hb => absurd rfl hb))
 exact xY (cq 57 dc) dR
 refine ob1 0 fun _ _ (fm : Sep _ _ _ _) cr => (zN rfl rfl (cr 55 dc) (fun _ => ?_) (fun hb => absurd rfl hb))
 have aN : 1 < ky.length := (by first | omega | decide +kernel)
 obtain ⟨aZ, av, cV⟩ := (RdS.base I E).ent aN
 rw [← zm default aN] at aZ av cV
 have hsm1894 : ((ky.getD 1 default).ev.deps).length * 8 ≤ 140737488355328 := av.small
 have dU := fm.cells aZ ((RdS.base I E).foot (ne_of_lt aN))
 have fn : ((ky.getD 1 default).void) = true := by decide +kernel
 exact zg (v := .bool ((ky.getD 1 default).void)) Tryd.isAgg4 (cr 58 dc) (dU.get (j := 10) rfl) (fun s C _ => ⟨rfl, C.trans (congrArg Value.bool fn)⟩)
 exact fun _ _ _ _ _ _ ct => obl rfl (zX (v := .bool true) (ct 55 dc) (ct 59 dc) dR)
 exact fun _ _ _ _ _ _ fo => obl rfl (zb (v := .bool true) (fo 60 dc) dR)
 refine fun _ _ _ _ _ _ fp => (zN rfl rfl (fp 61 dc) (fun _ => ?_) (fun hb => absurd rfl hb))
 exact zb (v := A) rfl dR
 refine ob1 0 fun _ _ _ cu => (zN rfl rfl (cu 61 dc) (fun _ => ?_) (fun hb => absurd rfl hb))
 have fq : 1 < ky.length := (by first | omega | decide +kernel)
 exact zk (k := 13) (i := 1) Tryd.underlying66 Tryd.sizeOf62 (cu 62 dc) (RdS.base I E).sl rfl fq dR
 refine fun _ _ _ _ _ _ cv => (zN rfl rfl (cv 61 dc) (fun _ => ?_) (fun hb => absurd rfl hb))
 exact Xl (cv 63 dc) dR
 refine ob1 0 fun _ _ (fr : Sep _ _ _ _) cw => (zN rfl rfl (cw 61 dc) (fun _ => ?_) (fun hb => absurd rfl hb))
 have aO : 1 < ky.length := (by first | omega | decide +kernel)
 obtain ⟨ba, aw, cW⟩ := (RdS.base I E).ent aO
 rw [← zm default aO] at ba aw cW
 have hsm1948 : ((ky.getD 1 default).ev.deps).length * 8 ≤ 140737488355328 := aw.small
 have dV := fr.cells ba ((RdS.base I E).foot (ne_of_lt aO))
 exact zl (k := 2) (cs := [Iv ((ky.getD 1 default).byO), Iv ((ky.getD 1 default).byS)]) Tryd.isAgg57 Tryd.sizeOf57 rfl (cw 64 dc) (CellsAt.sub dV 11 (cs2 := [Iv ((ky.getD 1 default).byO), Iv ((ky.getD 1 default).byS)]) rfl) dR
 refine fun _ _ _ _ _ _ fs => (zN rfl rfl (fs 61 dc) (fun _ => ?_) (fun hb => absurd rfl hb))
 exact yM rfl dR
 refine ob1 0 fun _ _ (ft : Sep _ _ _ _) cx => (zN rfl rfl (cx 61 dc) (fun _ => ?_) (fun hb => absurd rfl hb))
 exact zl (k := 2) (cs := [Iv (evB.origin), Iv (evB.seq)]) Tryd.isAgg57 Tryd.sizeOf57 rfl (cx 66 dc) (CellsAt.sub (CellsAt.all (ft.blk (i := 5) rfl)) 0 (cs2 := [Iv (evB.origin), Iv (evB.seq)]) rfl) dR
 refine ob1 0 fun _ _ _ aP => (zN rfl rfl (aP 61 dc) (fun _ => ?_) (fun hb => absurd rfl hb))
 have fu : (decide ((ky.getD 1 default).byO = evB.origin ∧ (ky.getD 1 default).byS = evB.seq)) = true := by decide +kernel
 exact xW (e := decide ((ky.getD 1 default).byO = evB.origin ∧ (ky.getD 1 default).byS = evB.seq)) (xs := #[Iv ((ky.getD 1 default).byO), Iv ((ky.getD 1 default).byS)]) (ys := #[Iv (evB.origin), Iv (evB.seq)]) VT (aP 65 dc) (aP 67 dc) (fun s C _ => ⟨rfl, C.trans (congrArg Value.bool fu)⟩)
 exact fun _ _ _ _ _ _ cy => obl rfl (zX (v := .bool true) (cy 61 dc) (cy 68 dc) dR)
 exact fun _ _ _ _ _ _ fv => obl rfl (zb (v := .bool true) (fv 69 dc) dR)
 refine fun _ _ _ _ _ _ fw => (zN rfl rfl (fw 70 dc) (fun _ => ?_) (fun hb => absurd rfl hb))
 exact zb (v := A) rfl dR
 refine ob1 0 fun _ _ _ cz => (zN rfl rfl (cz 70 dc) (fun _ => ?_) (fun hb => absurd rfl hb))
 have fx : 2 < ky.length := (by first | omega | decide +kernel)
 exact zk (k := 13) (i := 2) Tryd.underlying66 Tryd.sizeOf62 (cz 71 dc) (RdS.base I E).sl rfl fx dR
 refine fun _ _ _ _ _ _ cA => (zN rfl rfl (cA 70 dc) (fun _ => ?_) (fun hb => absurd rfl hb))
 exact xY (cA 72 dc) dR
 refine ob1 0 fun _ _ (fy : Sep _ _ _ _) cB => (zN rfl rfl (cB 70 dc) (fun _ => ?_) (fun hb => absurd rfl hb))
 have aQ : 2 < ky.length := (by first | omega | decide +kernel)
 obtain ⟨bb, ax, cX⟩ := (RdS.base I E).ent aQ
 rw [← zm default aQ] at bb ax cX
 have hsm2028 : ((ky.getD 2 default).ev.deps).length * 8 ≤ 140737488355328 := ax.small
 have dW := fy.cells bb ((RdS.base I E).foot (ne_of_lt aQ))
 exact zg (v := .bool ((ky.getD 2 default).void)) Tryd.isAgg4 (cB 73 dc) (dW.get (j := 10) rfl) dR
 refine fun _ _ _ _ _ _ cC => (zN rfl rfl (cC 70 dc) (fun _ => ?_) (fun hb => absurd rfl hb))
 have fz : (!((ky.getD 2 default).void)) = true := by decide +kernel
 exact yt (a := (ky.getD 2 default).void) (cC 74 dc) (fun s C _ => ⟨rfl, C.trans (congrArg Value.bool fz)⟩)
 exact fun _ _ _ _ _ _ cD => obl rfl (zX (v := .bool true) (cD 70 dc) (cD 75 dc) dR)
 exact fun _ _ _ _ _ _ fA => obl rfl (zb (v := .bool true) (fA 76 dc) dR)
 refine fun _ _ _ _ _ _ fB => (zN rfl rfl (fB 77 dc) (fun _ => ?_) (fun hb => absurd rfl hb))
 exact yF rfl dR
 refine ob1 0 fun _ _ (fC : Sep _ _ _ _) cE => (zN rfl rfl (cE 77 dc) (fun _ => ?_) (fun hb => absurd rfl hb))
 exact zg (v := K) Tryd.isAgg26 (cE 78 dc) (zh (fC.blk (i := 0) rfl) rfl) dR
 refine ob1 0 fun _ _ _ cF => (zN rfl rfl (cF 77 dc) (fun _ => ?_) (fun hb => absurd rfl hb))
 have fE : 0 < (stL (ym 3) (0, 0) ky).length := (by first | omega | decide +kernel)
 exact zk (k := 2) (i := 0) Tryd.underlying26 Tryd.sizeOf42 (cF 79 dc) (RdS.base (RdS.base (RdS.base ai bm) ac) E).sl rfl fE dR
 refine fun _ _ _ _ _ _ cG => (zN rfl rfl (cG 77 dc) (fun _ => ?_) (fun hb => absurd rfl hb))
 exact yL (cG 80 dc) dR
 refine ob1 0 fun _ _ (fF : Sep _ _ _ _) cH => (zN rfl rfl (cH 77 dc) (fun _ => ?_) (fun hb => absurd rfl hb))
 have aR : 0 < (stL (ym 3) (0, 0) ky).length := (by first | omega | decide +kernel)
 obtain ⟨bc, ay, cY⟩ := (RdS.base (RdS.base (RdS.base ai bm) ac) E).cel aR
 rw [← zm default aR] at bc ay cY
 have hsm2099 : (((stL (ym 3) (0, 0) ky).getD 0 default).set).length * 8 ≤ 140737488355328 := ay.small
 have dX := fF.cells bc ((RdS.base (RdS.base (RdS.base ai bm) ac) E).foot (ne_of_lt aR))
 exact zg (v := Iv (((stL (ym 3) (0, 0) ky).getD 0 default).n)) Tryd.isAgg3 (cH 81 dc) (dX.get (j := 0) rfl) dR
 refine ob1 0 fun _ _ _ cI => (zN rfl rfl (cI 77 dc) (fun _ => ?_) (fun hb => absurd rfl hb))
 have fG : (decide ((((stL (ym 3) (0, 0) ky).getD 0 default).n) = 3)) = true := by decide +kernel
 exact zP (k := .i64) (a := ((stL (ym 3) (0, 0) ky).getD 0 default).n) (b := 3) (cI 82 dc) rfl (fun s C _ => ⟨rfl, C.trans (congrArg Value.bool fG)⟩)
 exact fun _ _ _ _ _ _ cJ => obl rfl (zX (v := .bool true) (cJ 77 dc) (cJ 83 dc) dR)
 exact fun _ _ _ _ _ _ fH => obl rfl (ze (v := .bool true) (fH 84 dc) dR)
 intro vals iB fI fJ
 have fK : Sep _ _ _ _ := fI
 have iC := fJ 85 dc
 refine yf (kv := [(0, .bool true), (12, (Iy b2 2 2)), (13, .agg ((⟨0, 1, 1, [0, 0], 0, 0, 0, 2, 1, 0⟩ : Ev).cells (Iy b2 2 2)).toArray), (1, Ix N 0), (14, (Iy g 2 2)), (15, .agg ((⟨1, 1, 2, [0, 0], 0, 0, 0, 2, 2, 0⟩ : Ev).cells (Iy g 2 2)).toArray), (2, Ix P 0), (16, (Iy m 2 2)), (17, .agg ((⟨1, 2, 3, [0, 1], 0, 0, 0, 2, 3, 0⟩ : Ev).cells (Iy m 2 2)).toArray), (3, Ix Q 0), (4, Ix x 0), (5, Ix B 0), (30, Ix x 0), (31, .bool false), (32, .bool false), (33, Ix B 0), (34, .bool false), (35, .bool false), (36, Ix x 0), (37, q), (6, q), (38, Ix B 0), (39, A), (7, A), (41, Ix x 0), (42, .tuple #[.agg ((yb (ym 2) (0, 0) kx).cells J).toArray, .bool ((zp (ym 2) kx (0, 0)).isSome)]), (40, .tuple #[.agg ((yb (ym 2) (0, 0) kx).cells J).toArray, .bool ((zp (ym 2) kx (0, 0)).isSome)]), (43, .agg ((yb (ym 2) (0, 0) kx).cells J).toArray), (44, .bool ((zp (ym 2) kx (0, 0)).isSome)), (8, Ix aD 0), (9, .bool ((zp (ym 2) kx (0, 0)).isSome)), (46, Ix B 0), (47, .tuple #[.agg ((yb (ym 3) (0, 0) ky).cells K).toArray, .bool ((zp (ym 3) ky (0, 0)).isSome)]), (45, .tuple #[.agg ((yb (ym 3) (0, 0) ky).cells K).toArray, .bool ((zp (ym 3) ky (0, 0)).isSome)]), (48, .agg ((yb (ym 3) (0, 0) ky).cells K).toArray), (49, .bool ((zp (ym 3) ky (0, 0)).isSome)), (10, Ix bl 0), (11, .bool ((zp (ym 3) ky (0, 0)).isSome)), (50, q), (51, Iw kx.length), (52, .bool false), (53, .bool false), (54, A), (55, Iw ky.length), (56, .bool false), (57, .bool false), (58, .bool false), (59, .bool ((zp (ym 2) kx (0, 0)).isSome)), (60, .bool false), (61, .bool false), (62, .bool false), (63, .bool ((zp (ym 3) ky (0, 0)).isSome)), (64, .bool false), (65, .bool false), (66, .bool false), (67, Ix aD 1), (68, J), (69, Iw ((stL (ym 2) (0, 0) kx).length)), (70, .bool false), (71, .bool false), (72, .bool false), (73, Ix bl 1), (74, K), (75, Iw ((stL (ym 3) (0, 0) ky).length)), (76, .bool false), (77, .bool false)]) ⟨(by exact iC), rfl, rfl, rfl, rfl, rfl, rfl, rfl, rfl, rfl, rfl, rfl, rfl, rfl, rfl, rfl, rfl, rfl, rfl, rfl, rfl, rfl, rfl, rfl, rfl, rfl, rfl, rfl, rfl, rfl, rfl, rfl, rfl, rfl, rfl, rfl, rfl, rfl, rfl, rfl, rfl, rfl, rfl, rfl, rfl, rfl, rfl, rfl, rfl, rfl, rfl, rfl, rfl, rfl, rfl, rfl, rfl, rfl, rfl, rfl, rfl, rfl, rfl, rfl, rfl, rfl, trivial⟩ (fun ρw2126 => ?_)
 refine zf (zt (zO Tryd.results21 (show _ = (.bool true : Value) from rfl) ?_))
 have fL := iA _ _ fK
 have fM := iw _ _ fL
 have fN := ir _ _ fM
 have fO := im _ _ fN
 have fP := fX _ _ fO
 have fQ := jq _ _ fP
 have fR := jm _ _ fQ
 have fS : Sep G W Rs iB := fR.sel 14 [] (Nat.le_add_left _ _) rfl rfl
 refine ⟨rfl, fS⟩

end Go.Proofs.YtlblilbmpdejgaaDoor
