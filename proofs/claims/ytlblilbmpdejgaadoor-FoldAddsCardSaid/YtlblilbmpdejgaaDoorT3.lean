import Derived.Test.YtlblilbmpdejgaaDoorT2
import Derived.Shelf.Spec.SlicesInsertGrow
import Derived.Shelf.Slices.Delete
import Derived.Test.YtlblilbmpdejgaaDoorProg
set_option linter.unusedSimpArgs false
set_option linter.unusedVariables false
set_option linter.unusedSectionVars false
set_option linter.deprecated false
/- Steps of the proofs of this seat: part C2. -/
set_option maxRecDepth 8000
namespace Go.Proofs.YtlblilbmpdejgaaDoor
open Go.Proofs Go.RowKit

theorem Wa {d : Option Tmp} {ty : TypeId} {pos : String} {af : Array Edge} {g : Option (Nat × Bool)} {σ : Env} {w : World} {K : Value → World → Prop} {x : Operand} {b o : Nat} (hx : ev σ x = .pointer (some ⟨b, o, none⟩)) (h : K (.pointer (some ⟨b, o + 4, none⟩)) w) : opV Tryd.prog ⟨d, .fieldAddr 101 x 1, ty, pos, af, g⟩ σ w K := zA Tryd.underlying101 rfl rfl (fun w => ⟨0, Tryd.sizeOf26 w⟩) hx h
theorem VS {d : Option Tmp} {ty : TypeId} {pos : String} {af : Array Edge} {g : Option (Nat × Bool)} {σ : Env} {w : World} {K : Value → World → Prop} {x : Operand} {b o : Nat} (hx : ev σ x = .pointer (some ⟨b, o, none⟩)) (h : K (.pointer (some ⟨b, o + 5, none⟩)) w) : opV Tryd.prog ⟨d, .fieldAddr 101 x 2, ty, pos, af, g⟩ σ w K := zA Tryd.underlying101 rfl rfl (fun w => ⟨0, Tryd.sizeOf3 w⟩) hx h
theorem Wo {G : Nat → Prop} {W w : World} {Rs : List HP} {a : AskR} {da0 : Value} (hda0 : RdS W G da0 a.fld.moves) {da1 : Value} (hda1 : RdS W G da1 a.cls) (oa : a.Ok) (hS0 : Sep G W Rs w) (hno : 0 ≤ a.no ∧ a.no < a.cls.length) : Ret Tryd.prog 79 [.agg (a.cells da0 da1).toArray] w (fun r w' => r = (.pointer (some ⟨sb da1, so da1 + a.no.toNat * 2, none⟩) : Value) ∧ Sep G W Rs w') := by
 have hda0s : _ * 32 ≤ _ := hda0.small
 have hda1s : _ * 32 ≤ _ := hda1.small
 refine zr (args := [.agg (a.cells da0 da1).toArray]) Tryd.func79 rfl rfl ?_
 refine zd (za kr (fun _ => (st (zT (v := .agg (a.cells da0 da1).toArray) rfl ?_))))
 intro w3 b2 c
 have b := hS0.new c
 refine st (ze (v := .pointer none) rfl (zf (zd (za kr (fun _ => (st (Wa rfl (st (zg (v := da1) Tryd.isAgg26 rfl (zh (b.blk (i := 0) rfl) rfl) (st (VS rfl (st (zg (v := Iv (a.no)) Tryd.isAgg3 rfl (zh (b.blk (i := 0) rfl) rfl) ?_)))))))))))))
 have hi5 : a.no.toNat < a.cls.length := bo
 refine st (zz (k := 2) (i := a.no) Tryd.underlying26 Tryd.sizeOf42 rfl hda1.sl rfl ⟨by omega, by omega⟩ (st (ze (v := Ix (sb da1) (so da1 + a.no.toNat * 2)) rfl (zf (zt (zO Tryd.results79 (show _ = (Ix (sb da1) (so da1 + a.no.toNat * 2) : Value) from rfl) ?_))))))
 have d := b.s1_
 refine ⟨rfl, d⟩

theorem WV {G : Nat → Prop} {W w : World} {Rs : List HP} {a : AskR} {da0 : Value} (hda0 : RdS W G da0 a.fld.moves) {da1 : Value} (hda1 : RdS W G da1 a.cls) (oa : a.Ok) (hS0 : Sep G W Rs w) : Ret Tryd.prog 80 [.agg (a.cells da0 da1).toArray] w (fun r w' => r = (.bool true : Value) ∧ Sep G W Rs w') := by
 have hda0s : _ * 32 ≤ _ := hda0.small
 have hda1s : _ * 32 ≤ _ := hda1.small
 refine zr (args := [.agg (a.cells da0 da1).toArray]) Tryd.func80 rfl rfl ?_
 refine zd (za kr (fun _ => (st (zT (v := .agg (a.cells da0 da1).toArray) rfl ?_))))
 intro w3 b2 b
 have c := hS0.new b
 refine st (ze (v := .bool false) rfl (zf (zd (za kr (fun _ => (st (ze (v := .bool true) rfl (zf (zt (zO Tryd.results80 (show _ = (.bool true : Value) from rfl) ?_))))))))))
 have d := c.s1_
 refine ⟨rfl, d⟩

theorem yL {d : Option Tmp} {ty : TypeId} {pos : String} {af : Array Edge} {g : Option (Nat × Bool)} {σ : Env} {w : World} {K : Value → World → Prop} {x : Operand} {b o : Nat} (hx : ev σ x = .pointer (some ⟨b, o, none⟩)) (h : K (.pointer (some ⟨b, o + 0, none⟩)) w) : opV Tryd.prog ⟨d, .fieldAddr 42 x 0, ty, pos, af, g⟩ σ w K := zA Tryd.underlying42 rfl rfl (fun w => ⟨0, Tryd.sizeOf3 w⟩) hx h
theorem xl {d : Option Tmp} {ty : TypeId} {pos : String} {af : Array Edge} {g : Option (Nat × Bool)} {σ : Env} {w : World} {K : Value → World → Prop} {x : Operand} {b o : Nat} (hx : ev σ x = .pointer (some ⟨b, o, none⟩)) (h : K (.pointer (some ⟨b, o + 6, none⟩)) w) : opV Tryd.prog ⟨d, .fieldAddr 101 x 3, ty, pos, af, g⟩ σ w K := zA Tryd.underlying101 rfl rfl (fun w => ⟨0, Tryd.sizeOf3 w⟩) hx h
theorem YE {d : Option Tmp} {ty : TypeId} {pos : String} {af : Array Edge} {g : Option (Nat × Bool)} {σ : Env} {w : World} {K : Value → World → Prop} {x : Operand} {b o : Nat} (hx : ev σ x = .pointer (some ⟨b, o, none⟩)) (h : K (.pointer (some ⟨b, o + 0, none⟩)) w) : opV Tryd.prog ⟨d, .fieldAddr 101 x 0, ty, pos, af, g⟩ σ w K := zA Tryd.underlying101 rfl rfl (fun w => ⟨3, Tryd.sizeOf79 w⟩) hx h
theorem XR {d : Option Tmp} {ty : TypeId} {pos : String} {af : Array Edge} {g : Option (Nat × Bool)} {σ : Env} {w : World} {K : Value → World → Prop} {x : Operand} {b o : Nat} (hx : ev σ x = .pointer (some ⟨b, o, none⟩)) (h : K (.pointer (some ⟨b, o + 2, none⟩)) w) : opV Tryd.prog ⟨d, .fieldAddr 79 x 2, ty, pos, af, g⟩ σ w K := zA Tryd.underlying79 rfl rfl (fun w => ⟨0, Tryd.sizeOf4 w⟩) hx h
theorem UL {G : Nat → Prop} {W w : World} {Rs : List HP} {a : AskR} {da0 : Value} (hda0 : RdS W G da0 a.fld.moves) {da1 : Value} (hda1 : RdS W G da1 a.cls) (oa : a.Ok) (hS0 : Sep G W Rs w) (hno : 0 ≤ a.no ∧ a.no < a.cls.length) : Ret Tryd.prog 77 [.agg (a.cells da0 da1).toArray] w (fun r w' => r = (.bool (yV a.fld a.cls (yj a.cls a.no) 1 a.arg) : Value) ∧ Sep G W Rs w') := by
 have hda0s : _ * 32 ≤ _ := hda0.small
 have hda1s : _ * 32 ≤ _ := hda1.small
 refine zr (args := [.agg (a.cells da0 da1).toArray]) Tryd.func77 rfl rfl ?_
 refine zd (za kr (fun _ => (st (zT (v := .agg (a.cells da0 da1).toArray) rfl ?_))))
 intro w3 b2 ah
 have M := hS0.new ah
 refine st (ze (v := .bool false) rfl (zf (zd (za kr (fun _ => (st (zl (k := 7) Tryd.isAgg101 Tryd.sizeOf101 rfl rfl (CellsAt.all (M.blk (i := 0) rfl)) ?_)))))))
 refine st (zu (f := 79) (vals := [.agg (a.cells da0 da1).toArray]) (cap := []) rfl rfl Tryd.call79 (Wo (a := a) hda0 hda1 oa M bo) ?_)
 rintro _ w5 ⟨rfl, e⟩
 refine st (zH (b := sb da1) (o := so da1 + a.no.toNat * 2) rfl (st (yL rfl ?_)))
 have t : a.no.toNat < a.cls.length := bo
 obtain ⟨u, m, s⟩ := hda1.cel t
 rw [← zm default t] at u m s
 have hsm9 : ((a.cls.getD a.no.toNat default).set).length * 8 ≤ 140737488355328 := m.small
 have L := e.cells u (hda1.foot (ne_of_lt t))
 refine st (zg (v := Iv ((a.cls.getD a.no.toNat default).n)) Tryd.isAgg3 rfl (L.get (j := 0) rfl) (st (ze (v := Iv ((a.cls.getD a.no.toNat default).n)) rfl (zf (zd (zF kr (st (xl rfl (st (zg (v := Iv (a.arg)) Tryd.isAgg3 rfl (zh (e.blk (i := 0) rfl) rfl) (st (zP (k := .i64) (a := a.arg) (b := 0) rfl rfl (st (zb (v := .bool (decide (a.arg = 0))) rfl (stc (V := Iv ((a.cls.getD a.no.toNat default).n)) rfl rfl (fun N => ?_) ?_)))))))))))))))
 have z := N
 have z := fD z
 exact zb (v := Iv ((a.cls.getD a.no.toNat default).n)) rfl ⟨rfl, rfl⟩
 refine stc (V := Ix b2 6) rfl rfl (fun O => ?_) ?_
 have A := O
 have A := fD A
 exact xl rfl ⟨rfl, rfl⟩
 refine stc (V := Iv (a.arg)) rfl rfl (fun B => ?_) ?_
 have C := B
 have C := fD C
 exact zg (v := Iv (a.arg)) Tryd.isAgg3 (show _ = (Ix b2 6 : Value) from (if_pos B)) (zh (e.blk (i := 0) rfl) rfl) ⟨rfl, rfl⟩
 cases c : decide (a.arg = 0)
 have g := c
 have c := fD c
 refine sty rfl rfl (zu (f := 93) (vals := [Iv ((a.cls.getD a.no.toNat default).n), Iv (a.arg)]) (cap := []) rfl rfl Tryd.call93 (D_sum (x := (a.cls.getD a.no.toNat default).n) (y := a.arg) s.n oa.arg e) ?_)
 rintro _ w18 ⟨rfl, p⟩
 refine st (yg (v := .bool ((decide (((a.cls.getD a.no.toNat default).n) < xh (((a.cls.getD a.no.toNat default).n) + a.arg)) == decide (0 < a.arg)))) rfl rfl (st (zb (v := .bool ((decide (((a.cls.getD a.no.toNat default).n) < xh (((a.cls.getD a.no.toNat default).n) + a.arg)) == decide (0 < a.arg)))) rfl (stc (V := Ix b2 0) rfl rfl (fun P => ?_) ?_))))
 have Q := P
 try simp only [zj] at Q
 exact YE rfl ⟨rfl, rfl⟩
 refine stc (V := Ix b2 2) rfl rfl (fun D => ?_) ?_
 have R := D
 try simp only [zj] at R
 exact XR (show _ = (Ix b2 0 : Value) from (if_pos D)) ⟨rfl, rfl⟩
 refine stc (V := .bool (a.fld.floor)) rfl rfl (fun E => ?_) ?_
 have S := E
 try simp only [zj] at S
 exact zg (v := .bool (a.fld.floor)) Tryd.isAgg4 (show _ = (Ix b2 2 : Value) from (if_pos E)) (zh (p.blk (i := 0) rfl) rfl) ⟨rfl, rfl⟩
 refine stc (V := .bool (a.fld.floor)) rfl rfl (fun F => ?_) ?_
 have T := F
 try simp only [zj] at T
 exact zb (v := .bool (a.fld.floor)) (show _ = (.bool (a.fld.floor) : Value) from (if_pos F)) ⟨rfl, rfl⟩
 refine yI (V := Iv ((a.cls.getD a.no.toNat default).n)) rfl rfl (fun H => ?_) ?_
 have U := H.1
 try simp only [zj] at U
 have hl30 := H.2
 exact zb (v := Iv ((a.cls.getD a.no.toNat default).n)) rfl ⟨rfl, rfl⟩
 refine yI (V := Ix b2 6) rfl rfl (fun I => ?_) ?_
 have X := I.1
 try simp only [zj] at X
 have hl33 := I.2
 exact xl rfl ⟨rfl, rfl⟩
 refine yI (V := Iv (a.arg)) rfl rfl (fun h => ?_) ?_
 have Y := h.1
 try simp only [zj] at Y
 have hl36 := h.2
 exact zg (v := Iv (a.arg)) Tryd.isAgg3 (show _ = (Ix b2 6 : Value) from (if_pos ⟨h.1, h.2⟩)) (zh (p.blk (i := 0) rfl) rfl) ⟨rfl, rfl⟩
 refine yI (V := Iv (IntKind.i64.wrap (((a.cls.getD a.no.toNat default).n) + a.arg))) rfl rfl (fun d => ?_) ?_
 have Z := d.1
 try simp only [zj] at Z
 have hl39 := d.2
 exact zV (r := IntKind.i64.wrap (((a.cls.getD a.no.toNat default).n) + a.arg)) (k := .i64) (a := (a.cls.getD a.no.toNat default).n) (b := a.arg) (show _ = (Iv ((a.cls.getD a.no.toNat default).n) : Value) from (if_pos ⟨d.1, d.2⟩)) (show _ = (Iv (a.arg) : Value) from (if_pos ⟨d.1, d.2⟩)) rfl ⟨rfl, rfl⟩
 refine yI (V := .bool (decide ((IntKind.i64.wrap (((a.cls.getD a.no.toNat default).n) + a.arg)) < 0))) rfl rfl (fun l => ?_) ?_
 have aa := l.1
 try simp only [zj] at aa
 have hl42 := l.2
 exact zL (k := .i64) (a := IntKind.i64.wrap (((a.cls.getD a.no.toNat default).n) + a.arg)) (b := 0) (show _ = (Iv (IntKind.i64.wrap (((a.cls.getD a.no.toNat default).n) + a.arg)) : Value) from (if_pos ⟨l.1, l.2⟩)) rfl ⟨rfl, rfl⟩
 refine stc (V := .bool (a.fld.floor && (decide ((IntKind.i64.wrap (((a.cls.getD a.no.toNat default).n) + a.arg)) < 0)))) rfl rfl (fun q => ?_) ?_
 have ab := q
 try simp only [zj] at ab
 exact zx (b := a.fld.floor) (b' := decide ((IntKind.i64.wrap (((a.cls.getD a.no.toNat default).n) + a.arg)) < 0)) (show _ = (.bool (a.fld.floor) : Value) from (if_pos q)) (fun hbp => (show _ = (.bool (decide ((IntKind.i64.wrap (((a.cls.getD a.no.toNat default).n) + a.arg)) < 0)) : Value) from (if_pos ⟨q, hbp⟩))) ⟨rfl, rfl⟩
 refine stc (V := .bool (!(a.fld.floor && (decide ((IntKind.i64.wrap (((a.cls.getD a.no.toNat default).n) + a.arg)) < 0))))) rfl rfl (fun J => ?_) ?_
 have ac := J
 try simp only [zj] at ac
 exact yt (a := a.fld.floor && (decide ((IntKind.i64.wrap (((a.cls.getD a.no.toNat default).n) + a.arg)) < 0))) (show _ = (.bool (a.fld.floor && (decide ((IntKind.i64.wrap (((a.cls.getD a.no.toNat default).n) + a.arg)) < 0))) : Value) from (if_pos J)) ⟨rfl, rfl⟩
 refine st (zx (b := (decide (((a.cls.getD a.no.toNat default).n) < xh (((a.cls.getD a.no.toNat default).n) + a.arg)) == decide (0 < a.arg))) (b' := !(a.fld.floor && (decide ((IntKind.i64.wrap (((a.cls.getD a.no.toNat default).n) + a.arg)) < 0)))) rfl (fun hbp => (show _ = (.bool (!(a.fld.floor && (decide ((IntKind.i64.wrap (((a.cls.getD a.no.toNat default).n) + a.arg)) < 0)))) : Value) from (if_pos hbp))) (st (ze (v := .bool ((decide (((a.cls.getD a.no.toNat default).n) < xh (((a.cls.getD a.no.toNat default).n) + a.arg)) == decide (0 < a.arg)) && (!(a.fld.floor && (decide ((IntKind.i64.wrap (((a.cls.getD a.no.toNat default).n) + a.arg)) < 0)))))) rfl (zf (zt (zO Tryd.results77 (show _ = (.bool ((decide (((a.cls.getD a.no.toNat default).n) < xh (((a.cls.getD a.no.toNat default).n) + a.arg)) == decide (0 < a.arg)) && (!(a.fld.floor && (decide ((IntKind.i64.wrap (((a.cls.getD a.no.toNat default).n) + a.arg)) < 0))))) : Value) from rfl) ?_))))))
 have ad := p.s1_
 refine ⟨?_, ad⟩
 unfold yV
 rw [if_pos rfl, g]
 rfl
 have g := c
 have c := tD c
 refine stx rfl rfl (st (zX (v := .bool true) rfl rfl (st (zb (v := .bool true) rfl (sty rfl rfl (YE rfl (sty rfl rfl (XR rfl (sty rfl rfl (zg (v := .bool (a.fld.floor)) Tryd.isAgg4 rfl (zh (e.blk (i := 0) rfl) rfl) (sty rfl rfl (zb (v := .bool (a.fld.floor)) rfl (stc (V := Iv ((a.cls.getD a.no.toNat default).n)) rfl rfl (fun hb48 => ?_) ?_)))))))))))))
 exact zb (v := Iv ((a.cls.getD a.no.toNat default).n)) rfl ⟨rfl, rfl⟩
 refine stc (V := Ix b2 6) rfl rfl (fun hb50 => ?_) ?_
 exact xl rfl ⟨rfl, rfl⟩
 refine stc (V := Iv (a.arg)) rfl rfl (fun ae => ?_) ?_
 exact zg (v := Iv (a.arg)) Tryd.isAgg3 (show _ = (Ix b2 6 : Value) from (if_pos ae)) (zh (e.blk (i := 0) rfl) rfl) ⟨rfl, rfl⟩
 refine stc (V := Iv (IntKind.i64.wrap (((a.cls.getD a.no.toNat default).n) + a.arg))) rfl rfl (fun K => ?_) ?_
 exact zV (r := IntKind.i64.wrap (((a.cls.getD a.no.toNat default).n) + a.arg)) (k := .i64) (a := (a.cls.getD a.no.toNat default).n) (b := a.arg) (show _ = (Iv ((a.cls.getD a.no.toNat default).n) : Value) from (if_pos K)) (show _ = (Iv (a.arg) : Value) from (if_pos K)) rfl ⟨rfl, rfl⟩
 refine stc (V := .bool (decide ((IntKind.i64.wrap (((a.cls.getD a.no.toNat default).n) + a.arg)) < 0))) rfl rfl (fun af => ?_) ?_
 exact zL (k := .i64) (a := IntKind.i64.wrap (((a.cls.getD a.no.toNat default).n) + a.arg)) (b := 0) (show _ = (Iv (IntKind.i64.wrap (((a.cls.getD a.no.toNat default).n) + a.arg)) : Value) from (if_pos af)) rfl ⟨rfl, rfl⟩
 refine sty rfl rfl (zx (b := a.fld.floor) (b' := decide ((IntKind.i64.wrap (((a.cls.getD a.no.toNat default).n) + a.arg)) < 0)) rfl (fun hbp => (show _ = (.bool (decide ((IntKind.i64.wrap (((a.cls.getD a.no.toNat default).n) + a.arg)) < 0)) : Value) from (if_pos hbp))) (sty rfl rfl (yt (a := a.fld.floor && (decide ((IntKind.i64.wrap (((a.cls.getD a.no.toNat default).n) + a.arg)) < 0))) rfl (st (zX (v := .bool (!(a.fld.floor && (decide ((IntKind.i64.wrap (((a.cls.getD a.no.toNat default).n) + a.arg)) < 0))))) rfl rfl (st (ze (v := .bool (!(a.fld.floor && (decide ((IntKind.i64.wrap (((a.cls.getD a.no.toNat default).n) + a.arg)) < 0))))) rfl (zf (zt (zO Tryd.results77 (show _ = (.bool (!(a.fld.floor && (decide ((IntKind.i64.wrap (((a.cls.getD a.no.toNat default).n) + a.arg)) < 0)))) : Value) from rfl) ?_))))))))))
 have ag := e.s1_
 refine ⟨?_, ag⟩
 unfold yV
 rw [if_pos rfl, g]
 rfl

theorem yN {d : Option Tmp} {ty : TypeId} {pos : String} {af : Array Edge} {g : Option (Nat × Bool)} {σ : Env} {w : World} {K : Value → World → Prop} {x : Operand} {b o : Nat} (hx : ev σ x = .pointer (some ⟨b, o, none⟩)) (h : K (.pointer (some ⟨b, o + 1, none⟩)) w) : opV Tryd.prog ⟨d, .fieldAddr 42 x 1, ty, pos, af, g⟩ σ w K := zA Tryd.underlying42 rfl rfl (fun w => ⟨0, Tryd.sizeOf40 w⟩) hx h
theorem Qy {G : Nat → Prop} {W w : World} {Rs : List HP} {a : AskR} {da0 : Value} (hda0 : RdS W G da0 a.fld.moves) {da1 : Value} (hda1 : RdS W G da1 a.cls) (oa : a.Ok) (hS0 : Sep G W Rs w) (hno : 0 ≤ a.no ∧ a.no < a.cls.length) (hasc : Asc (yj a.cls a.no).set) : Ret Tryd.prog 82 [.agg (a.cells da0 da1).toArray] w (fun r w' => r = (.bool (yV a.fld a.cls (yj a.cls a.no) 3 a.arg) : Value) ∧ Sep G W Rs w') := by
 have hda0s : _ * 32 ≤ _ := hda0.small
 have hda1s : _ * 32 ≤ _ := hda1.small
 refine zr (args := [.agg (a.cells da0 da1).toArray]) Tryd.func82 rfl rfl ?_
 refine zd (za kr (fun _ => (st (zT (v := .agg (a.cells da0 da1).toArray) rfl ?_))))
 intro w3 b2 aK
 have aL := hS0.new aK
 refine st (ze (v := .bool false) rfl (zf (zd ?_)))
 refine WD4 ((fun S => WF [fun vals T => Sep G W (S :: Rs) T, fun vals T => (vals 1 = (Ix (sb da1) (so da1 + a.no.toNat * 2) : Value)) ∧ Sep G W (S :: Rs) T, fun vals T => ∃ (c : Nat), (vals 1 = (Ix (sb da1) (so da1 + a.no.toNat * 2) : Value)) ∧ (vals 7 = (.tuple #[Iw c, .bool (decide (a.arg ∈ ((a.cls.getD a.no.toNat default).set)))] : Value)) ∧ (c ≤ ((a.cls.getD a.no.toNat default).set).length ∧ (∀ q, q < c → ((a.cls.getD a.no.toNat default).set).getD q 0 < a.arg) ∧ (∀ q, c ≤ q → q < ((a.cls.getD a.no.toNat default).set).length → a.arg ≤ ((a.cls.getD a.no.toNat default).set).getD q 0)) ∧ Sep G W (S :: Rs) T]) (Blk b2 (a.cells da0 da1).toArray 101)) (AF [Vl 0 (.agg (a.cells da0 da1).toArray), fun _ => True, Vl 2 (Ix (sb da1) (so da1 + a.no.toNat * 2)), Vl 3 (Ix (sb da1) (so da1 + a.no.toNat * 2 + 1)), Vl 4 ((zi W (sb da1) (so da1 + a.no.toNat * 2 + 1))), Vl 5 (Ix b2 6), Vl 6 (Iv (a.arg)), fun _ => True, fun vals => ∀ (c : Nat), vals 7 = (.tuple #[Iw c, .bool (decide (a.arg ∈ ((a.cls.getD a.no.toNat default).set)))] : Value) → vals 8 = (.tuple #[Iw c, .bool (decide (a.arg ∈ ((a.cls.getD a.no.toNat default).set)))] : Value), fun vals => ∀ (c : Nat), vals 7 = (.tuple #[Iw c, .bool (decide (a.arg ∈ ((a.cls.getD a.no.toNat default).set)))] : Value) → vals 9 = (Iw c : Value), Vl 10 (.bool (decide (a.arg ∈ ((a.cls.getD a.no.toNat default).set)))), fun vals => ∀ (c : Nat), vals 7 = (.tuple #[Iw c, .bool (decide (a.arg ∈ ((a.cls.getD a.no.toNat default).set)))] : Value) → vals 11 = (Iw c : Value), Vl 12 (.bool (decide (a.arg ∈ ((a.cls.getD a.no.toNat default).set))))]) [[], [0], [0, 1], [0, 1, 2], (rg 4), [], [5], (rg 7), (rg 8), (rg 9), (rg 9), (rg 10), (rg 12)] [1, 7] [(0, 0), (0, 0), (1, 1), (1, 1), (1, 1), (0, 1), (0, 1), (1, 1), (2, 2), (2, 2), (2, 2), (2, 2), (2, 2)] aL ⟨?_, ?_, ?_, ?_, ?_, ?_, ?_, ?_, ?_, ?_, ?_, ?_, ?_, trivial⟩ ?_ (hlocA := yZ ⟨dA, dT, dA, dA, dA, dA, dA, dT, fun vals m s h => fun c g => (s 8 (.inl rfl)).trans (h c ((s 7 (.inr dc)).symm.trans g)), fun vals m s h => fun c g => (s 9 (.inl rfl)).trans (h c ((s 7 (.inr dc)).symm.trans g)), dA, fun vals m s h => fun c g => (s 11 (.inl rfl)).trans (h c ((s 7 (.inr dc)).symm.trans g)), dA, trivial⟩)
 exact ob1 0 fun _ _ (ab : Sep _ _ _ _) _ => obl rfl (zl (k := 7) Tryd.isAgg101 Tryd.sizeOf101 rfl rfl (CellsAt.all (ab.blk (i := 0) rfl)) dR)
 refine ob1 0 fun vals _ (az : Sep _ _ _ _) aA => (obl rfl ?_)
 refine (zu (f := 79) (vals := [.agg (a.cells da0 da1).toArray]) (cap := []) rfl (yP ⟨(aA 0 dc), trivial⟩) Tryd.call79 (Wo (a := a) hda0 hda1 oa az bo) ?_)
 rintro _ w20 ⟨rfl, aB⟩
 exact fun m s z => ⟨(And.intro s aB), trivial⟩
 refine ob1 1 fun _ _ ac _ => ?_
 obtain ⟨e, hS133⟩ := ac
 exact obl rfl (zH (b := sb da1) (o := so da1 + a.no.toNat * 2) e dR)
 exact fun _ _ _ _ _ _ ad => obl rfl (yN (ad 2 dc) dR)
 refine ob1 1 fun _ _ ae af => ?_
 obtain ⟨e, ag⟩ := ae
 refine obl rfl ?_
 have C : a.no.toNat < a.cls.length := bo
 obtain ⟨H, A, Q⟩ := hda1.cel C
 rw [← zm default C] at H A Q
 have hsm151 : ((a.cls.getD a.no.toNat default).set).length * 8 ≤ 140737488355328 := A.small
 have U := ag.cells H (hda1.foot (ne_of_lt C))
 exact zg (v := (zi W (sb da1) (so da1 + a.no.toNat * 2 + 1))) Tryd.isAgg40 (af 3 dc) (U.get (j := 1) rfl) dR
 exact fun _ _ _ _ _ _ _ => obl rfl (xl rfl dR)
 refine fun D _ _ aC aD K L => ?_
 have hkk : D = 0 ∨ D = 1 := by have h1 : 0 ≤ D := aC; have h2 : D ≤ 1 := aD; omega
 rcases hkk with rfl | rfl
 have ah : Sep _ _ _ _ := K
 exact obl rfl (zg (v := Iv (a.arg)) Tryd.isAgg3 (L 5 dc) (zh (ah.blk (i := 0) rfl) rfl) dR)
 obtain ⟨e, ai⟩ := K
 exact obl rfl (zg (v := Iv (a.arg)) Tryd.isAgg3 (L 5 dc) (zh (ai.blk (i := 0) rfl) rfl) dR)
 refine ob1 1 fun vals _ aE X => ?_
 obtain ⟨e, Y⟩ := aE
 refine obl rfl ?_
 have J : a.no.toNat < a.cls.length := bo
 obtain ⟨M, y, Z⟩ := hda1.cel J
 rw [← zm default J] at M y Z
 have hsm74 : ((a.cls.getD a.no.toNat default).set).length * 8 ≤ 140737488355328 := y.small
 have hcw75 := Y.cells M (hda1.foot (ne_of_lt J))
 refine (zu (f := 94) (vals := [(zi W (sb da1) (so da1 + a.no.toNat * 2 + 1)), Iv (a.arg)]) (cap := []) rfl (yP ⟨(X 4 dc), (X 6 dc), trivial⟩) Tryd.call94 (Ym (l := (a.cls.getD a.no.toNat default).set) (vl := (zi W (sb da1) (so da1 + a.no.toNat * 2 + 1))) (x := a.arg) y oa.arg Y (hasc)) ?_)
 rintro _ w78 ⟨c, rfl, p, aF⟩
 exact fun m s z => ⟨(Exists.intro c (And.intro ((z 1 dc).trans e) (And.intro s (And.intro p aF)))), trivial⟩
 refine ob1 2 fun _ _ aj _ => ?_
 obtain ⟨c, e, d, p, hS175⟩ := aj
 refine obl rfl (zb (v := .tuple #[Iw c, .bool (decide (a.arg ∈ ((a.cls.getD a.no.toNat default).set)))]) d (fun m s z => ⟨rfl, ?_⟩))
 intro N g
 rw [z 7 (by decide)] at g; cases d.symm.trans g
 exact s
 refine ob1 2 fun vals _ ak al => ?_
 obtain ⟨c, e, d, p, hS182⟩ := ak
 have aG : vals 8 = (.tuple #[Iw c, .bool (decide (a.arg ∈ ((a.cls.getD a.no.toNat default).set)))] : Value) := al 8 dc c d
 refine obl rfl (zE (vs := [Iw c, .bool (decide (a.arg ∈ ((a.cls.getD a.no.toNat default).set)))]) (i := 0) (v := Iw c) aG rfl (fun m s z => ⟨rfl, ?_⟩))
 intro N g
 rw [z 7 (by decide)] at g; cases d.symm.trans g
 exact s
 refine ob1 2 fun vals _ am an => ?_
 obtain ⟨c, e, d, p, hS190⟩ := am
 have aH : vals 8 = (.tuple #[Iw c, .bool (decide (a.arg ∈ ((a.cls.getD a.no.toNat default).set)))] : Value) := an 8 dc c d
 exact obl rfl (zE (vs := [Iw c, .bool (decide (a.arg ∈ ((a.cls.getD a.no.toNat default).set)))]) (i := 1) (v := .bool (decide (a.arg ∈ ((a.cls.getD a.no.toNat default).set)))) aH rfl dR)
 refine ob1 2 fun vals _ ao ap => ?_
 obtain ⟨c, e, d, p, hS198⟩ := ao
 have aI : vals 9 = (Iw c : Value) := ap 9 dc c d
 refine obl rfl (ze (v := Iw c) aI (fun m s z => ⟨rfl, ?_⟩))
 intro N g
 rw [z 7 (by decide)] at g; cases d.symm.trans g
 exact s
 refine ob1 2 fun _ _ aq ar => ?_
 obtain ⟨c, e, d, p, hS206⟩ := aq
 exact obl rfl (ze (v := .bool (decide (a.arg ∈ ((a.cls.getD a.no.toNat default).set)))) (ar 10 dc) dR)
 intro vals w208 au av
 obtain ⟨c, e, d, p, E⟩ := au
 have aJ := av 12 dc
 refine yf (kv := [(0, .agg (a.cells da0 da1).toArray), (1, Ix b2 0), (2, .bool false), (4, .bool (decide (a.arg ∈ ((a.cls.getD a.no.toNat default).set))))]) ⟨rfl, rfl, rfl, (by exact aJ), trivial⟩ (fun ρw208 => (zf (zd (zF kr (st (zb (v := .bool (decide (a.arg ∈ ((a.cls.getD a.no.toNat default).set)))) rfl (st (zb (v := .bool (decide (a.arg ∈ ((a.cls.getD a.no.toNat default).set)))) rfl (stc (V := .agg (a.cells da0 da1).toArray) rfl rfl (fun aw => ?_) ?_)))))))))
 have O := aw
 have O := fD O
 exact zl (k := 7) Tryd.isAgg101 Tryd.sizeOf101 rfl rfl (CellsAt.all (E.blk (i := 0) rfl)) ⟨rfl, rfl⟩
 cases t : decide (a.arg ∈ ((a.cls.getD a.no.toNat default).set))
 have B := t
 have t := fD t
 refine sty rfl rfl (zu (f := 79) (vals := [.agg (a.cells da0 da1).toArray]) (cap := []) rfl rfl Tryd.call79 (Wo (a := a) hda0 hda1 oa E bo) ?_)
 rintro _ w216 ⟨rfl, P⟩
 refine sty rfl rfl (zH (b := sb da1) (o := so da1 + a.no.toNat * 2) rfl (sty rfl rfl (yN rfl ?_)))
 have F : a.no.toNat < a.cls.length := bo
 obtain ⟨I, u, R⟩ := hda1.cel F
 rw [← zm default F] at I u R
 have hsm220 : ((a.cls.getD a.no.toNat default).set).length * 8 ≤ 140737488355328 := u.small
 have aa := P.cells I (hda1.foot (ne_of_lt F))
 refine sty rfl rfl (zg (v := (zi W (sb da1) (so da1 + a.no.toNat * 2 + 1))) Tryd.isAgg40 rfl (aa.get (j := 1) rfl) (sty rfl rfl (zJ (n := ((a.cls.getD a.no.toNat default).set).length) Tryd.underlying40 rfl u.sl (sty rfl rfl (zL (k := .i64) (a := ((((a.cls.getD a.no.toNat default).set).length : Nat) : Int)) (b := 64) rfl rfl (st (yg (v := .bool (decide (((((a.cls.getD a.no.toNat default).set).length : Nat) : Int) < 64))) rfl rfl (st (ze (v := .bool (decide (((((a.cls.getD a.no.toNat default).set).length : Nat) : Int) < 64))) rfl (zf (zt (zO Tryd.results82 (show _ = (.bool (decide (((((a.cls.getD a.no.toNat default).set).length : Nat) : Int) < 64)) : Value) from rfl) ?_))))))))))))
 have ax := P.s1_
 refine ⟨?_, ax⟩
 unfold yV
 rw [if_neg (by decide), if_pos rfl, show decide (a.arg ∈ (yj a.cls a.no).set) = _ from B]
 rfl
 have B := t
 have t := tD t
 refine stx rfl rfl (stx rfl rfl (stx rfl rfl (stx rfl rfl (stx rfl rfl (stx rfl rfl (st (zX (v := .bool true) rfl rfl (st (ze (v := .bool true) rfl (zf (zt (zO Tryd.results82 (show _ = (.bool true : Value) from rfl) ?_))))))))))))
 have ay := E.s1_
 refine ⟨?_, ay⟩
 unfold yV
 rw [if_neg (by decide), if_pos rfl, show decide (a.arg ∈ (yj a.cls a.no).set) = _ from B]
 rfl

theorem yz {d : Option Tmp} {ty : TypeId} {pos : String} {af : Array Edge} {g : Option (Nat × Bool)} {σ : Env} {w : World} {K : Value → World → Prop} {x : Operand} {b o : Nat} (hx : ev σ x = .pointer (some ⟨b, o, none⟩)) (h : K (.pointer (some ⟨b, o + 3, none⟩)) w) : opV Tryd.prog ⟨d, .fieldAddr 79 x 3, ty, pos, af, g⟩ σ w K := zA Tryd.underlying79 rfl rfl (fun w => ⟨0, Tryd.sizeOf77 w⟩) hx h
theorem XV {d : Option Tmp} {ty : TypeId} {pos : String} {af : Array Edge} {g : Option (Nat × Bool)} {σ : Env} {w : World} {K : Value → World → Prop} {x : Operand} {b o : Nat} (hx : ev σ x = .pointer (some ⟨b, o, none⟩)) (h : K (.pointer (some ⟨b, o + 0, none⟩)) w) : opV Tryd.prog ⟨d, .fieldAddr 115 x 0, ty, pos, af, g⟩ σ w K := zA Tryd.underlying115 rfl rfl (fun w => ⟨0, Tryd.sizeOf3 w⟩) hx h
theorem Zl {d : Option Tmp} {ty : TypeId} {pos : String} {af : Array Edge} {g : Option (Nat × Bool)} {σ : Env} {w : World} {K : Value → World → Prop} {x : Operand} {b o : Nat} (hx : ev σ x = .pointer (some ⟨b, o, none⟩)) (h : K (.pointer (some ⟨b, o + 2, none⟩)) w) : opV Tryd.prog ⟨d, .fieldAddr 115 x 2, ty, pos, af, g⟩ σ w K := zA Tryd.underlying115 rfl rfl (fun w => ⟨0, Tryd.sizeOf3 w⟩) hx h
theorem Wl {d : Option Tmp} {ty : TypeId} {pos : String} {af : Array Edge} {g : Option (Nat × Bool)} {σ : Env} {w : World} {K : Value → World → Prop} {x : Operand} {b o : Nat} (hx : ev σ x = .pointer (some ⟨b, o, none⟩)) (h : K (.pointer (some ⟨b, o + 3, none⟩)) w) : opV Tryd.prog ⟨d, .fieldAddr 115 x 3, ty, pos, af, g⟩ σ w K := zA Tryd.underlying115 rfl rfl (fun w => ⟨0, Tryd.sizeOf3 w⟩) hx h
theorem Ux {G : Nat → Prop} {W w : World} {Rs : List HP} {a : AskR} {da0 : Value} (hda0 : RdS W G da0 a.fld.moves) {da1 : Value} (hda1 : RdS W G da1 a.cls) (oa : a.Ok) (hS0 : Sep G W Rs w) (hno : 0 ≤ a.no ∧ a.no < a.cls.length) (hmv : 0 ≤ a.arg ∧ a.arg < a.fld.moves.length) (hnd : (Zk a.fld a.arg).need < 0 ∨ (Zk a.fld a.arg).need < a.cls.length) : Ret Tryd.prog 85 [.agg (a.cells da0 da1).toArray] w (fun r w' => r = (.bool (yV a.fld a.cls (yj a.cls a.no) 5 a.arg) : Value) ∧ Sep G W Rs w') := by
 have hda0s : _ * 32 ≤ _ := hda0.small
 have hda1s : _ * 32 ≤ _ := hda1.small
 have hnd1 : (a.fld.moves.getD a.arg.toNat default).need < 0 ∨ (a.fld.moves.getD a.arg.toNat default).need < a.cls.length := hnd
 refine zr (args := [.agg (a.cells da0 da1).toArray]) Tryd.func85 rfl rfl ?_
 refine zd (za kr (fun _ => (st (zT (v := .agg (a.cells da0 da1).toArray) rfl ?_))))
 intro w3 b2 bF
 have P := hS0.new bF
 refine st (ze (v := .bool false) rfl (zf (zd (za kr (fun _ => (st (YE rfl (st (yz rfl (st (zg (v := da0) Tryd.isAgg77 rfl (zh (P.blk (i := 0) rfl) rfl) (st (xl rfl (st (zg (v := Iv (a.arg)) Tryd.isAgg3 rfl (zh (P.blk (i := 0) rfl) rfl) ?_)))))))))))))))
 have hi5 : a.arg.toNat < a.fld.moves.length := bo
 refine st (zz (k := 4) (i := a.arg) Tryd.underlying77 Tryd.sizeOf115 rfl hda0.sl rfl ⟨by omega, by omega⟩ ?_)
 have aG : a.arg.toNat < a.fld.moves.length := bo
 obtain ⟨aH, aL⟩ := hda0.mv aG
 rw [← zm default aG] at aH aL
 have bu := P.cells aH (hda0.foot (ne_of_lt aG))
 refine st (zl (k := 4) Tryd.isAgg115 Tryd.sizeOf115 rfl rfl bu (st (zB Tryd.zeroValue115 ?_)))
 intro w11 u bG
 have aI := P.new bG
 refine stn (zy (v := .agg ((a.fld.moves.getD a.arg.toNat default).cells).toArray) (c' := ((a.fld.moves.getD a.arg.toNat default).cells).toArray) Tryd.sizeOf115 rfl rfl (aI.blk (i := 0) rfl) (ya ⟨rfl, rfl, rfl, rfl, trivial⟩) (Nat.le_of_ble_eq_true rfl) rfl ?_)
 intro w13 bv
 have bw := aI.pt0 bv
 refine zf (zd ?_)
 refine WD4 ((fun TT bt => WF [fun vals wq => Sep G W (bt :: TT) wq, fun vals wq => (vals 1 = (Ix (sb da1) (so da1 + a.no.toNat * 2) : Value)) ∧ Sep G W (bt :: TT) wq]) ((Blk b2 (a.cells da0 da1).toArray 101) :: Rs) (Blk u ((a.fld.moves.getD a.arg.toNat default).cells).toArray 115)) (AF [Vl 0 (.agg (a.cells da0 da1).toArray), fun _ => True, Vl 2 (Ix (sb da1) (so da1 + a.no.toNat * 2)), Vl 3 (Ix (sb da1) (so da1 + a.no.toNat * 2)), Vl 4 (Iv ((a.cls.getD a.no.toNat default).n)), Vl 5 (Ix u 0), Vl 6 (Iv ((a.fld.moves.getD a.arg.toNat default).frm)), Vl 7 (.bool (decide (((a.cls.getD a.no.toNat default).n) = ((a.fld.moves.getD a.arg.toNat default).frm)))), Vl 8 (.bool (decide (((a.cls.getD a.no.toNat default).n) = ((a.fld.moves.getD a.arg.toNat default).frm)))), Vl 9 (if (decide (((a.cls.getD a.no.toNat default).n) = ((a.fld.moves.getD a.arg.toNat default).frm))) = true then Ix u 2 else undef), Vl 10 (if (decide (((a.cls.getD a.no.toNat default).n) = ((a.fld.moves.getD a.arg.toNat default).frm))) = true then Iv ((a.fld.moves.getD a.arg.toNat default).need) else undef), Vl 11 (if (decide (((a.cls.getD a.no.toNat default).n) = ((a.fld.moves.getD a.arg.toNat default).frm))) = true then .bool (decide (((a.fld.moves.getD a.arg.toNat default).need) < 0)) else undef), Vl 12 (if (decide (((a.cls.getD a.no.toNat default).n) = ((a.fld.moves.getD a.arg.toNat default).frm))) = true then .bool (decide (((a.fld.moves.getD a.arg.toNat default).need) < 0)) else undef), Vl 13 (if ((decide (((a.cls.getD a.no.toNat default).n) = ((a.fld.moves.getD a.arg.toNat default).frm))) = true) ∧ (decide (((a.fld.moves.getD a.arg.toNat default).need) < 0)) = false then Ix b2 4 else undef), Vl 14 (if ((decide (((a.cls.getD a.no.toNat default).n) = ((a.fld.moves.getD a.arg.toNat default).frm))) = true) ∧ (decide (((a.fld.moves.getD a.arg.toNat default).need) < 0)) = false then da1 else undef), Vl 15 (if ((decide (((a.cls.getD a.no.toNat default).n) = ((a.fld.moves.getD a.arg.toNat default).frm))) = true) ∧ (decide (((a.fld.moves.getD a.arg.toNat default).need) < 0)) = false then Ix u 2 else undef), Vl 16 (if ((decide (((a.cls.getD a.no.toNat default).n) = ((a.fld.moves.getD a.arg.toNat default).frm))) = true) ∧ (decide (((a.fld.moves.getD a.arg.toNat default).need) < 0)) = false then Iv ((a.fld.moves.getD a.arg.toNat default).need) else undef), Vl 17 (if ((decide (((a.cls.getD a.no.toNat default).n) = ((a.fld.moves.getD a.arg.toNat default).frm))) = true) ∧ (decide (((a.fld.moves.getD a.arg.toNat default).need) < 0)) = false then Ix (sb da1) (so da1 + (((a.fld.moves.getD a.arg.toNat default).need).toNat) * 2) else undef), Vl 18 (if ((decide (((a.cls.getD a.no.toNat default).n) = ((a.fld.moves.getD a.arg.toNat default).frm))) = true) ∧ (decide (((a.fld.moves.getD a.arg.toNat default).need) < 0)) = false then Ix (sb da1) (so da1 + (((a.fld.moves.getD a.arg.toNat default).need).toNat) * 2) else undef), Vl 19 (if ((decide (((a.cls.getD a.no.toNat default).n) = ((a.fld.moves.getD a.arg.toNat default).frm))) = true) ∧ (decide (((a.fld.moves.getD a.arg.toNat default).need) < 0)) = false then Iv ((a.cls.getD (((a.fld.moves.getD a.arg.toNat default).need).toNat) default).n) else undef), Vl 20 (if ((decide (((a.cls.getD a.no.toNat default).n) = ((a.fld.moves.getD a.arg.toNat default).frm))) = true) ∧ (decide (((a.fld.moves.getD a.arg.toNat default).need) < 0)) = false then Ix u 3 else undef), Vl 21 (if ((decide (((a.cls.getD a.no.toNat default).n) = ((a.fld.moves.getD a.arg.toNat default).frm))) = true) ∧ (decide (((a.fld.moves.getD a.arg.toNat default).need) < 0)) = false then Iv ((a.fld.moves.getD a.arg.toNat default).least) else undef), Vl 22 (if ((decide (((a.cls.getD a.no.toNat default).n) = ((a.fld.moves.getD a.arg.toNat default).frm))) = true) ∧ (decide (((a.fld.moves.getD a.arg.toNat default).need) < 0)) = false then .bool (decide (((a.fld.moves.getD a.arg.toNat default).least) ≤ ((a.cls.getD (((a.fld.moves.getD a.arg.toNat default).need).toNat) default).n))) else undef), Vl 23 (if (decide (((a.cls.getD a.no.toNat default).n) = ((a.fld.moves.getD a.arg.toNat default).frm))) = true then .bool ((decide (((a.fld.moves.getD a.arg.toNat default).need) < 0)) || (decide (((a.fld.moves.getD a.arg.toNat default).least) ≤ ((a.cls.getD (((a.fld.moves.getD a.arg.toNat default).need).toNat) default).n)))) else undef), Vl 24 (.bool ((decide (((a.cls.getD a.no.toNat default).n) = ((a.fld.moves.getD a.arg.toNat default).frm))) && ((decide (((a.fld.moves.getD a.arg.toNat default).need) < 0)) || (decide (((a.fld.moves.getD a.arg.toNat default).least) ≤ ((a.cls.getD (((a.fld.moves.getD a.arg.toNat default).need).toNat) default).n)))))), Vl 25 (.bool ((decide (((a.cls.getD a.no.toNat default).n) = ((a.fld.moves.getD a.arg.toNat default).frm))) && ((decide (((a.fld.moves.getD a.arg.toNat default).need) < 0)) || (decide (((a.fld.moves.getD a.arg.toNat default).least) ≤ ((a.cls.getD (((a.fld.moves.getD a.arg.toNat default).need).toNat) default).n))))))]) [[], [0], [0, 1], [0, 1, 2], (rg 4), [], [5], (rg 7), (rg 8), (rg 9), (rg 10), (rg 11), (rg 12), (rg 13), (rg 14), (rg 13), [0, 1, 2, 3, 4, 5, 6, 7, 8, 9, 10, 11, 12, 15], (rg 17), (rg 18), (rg 19), (rg 13), [0, 1, 2, 3, 4, 5, 6, 7, 8, 9, 10, 11, 12, 20], (rg 22), (rg 23), (rg 24), (rg 25)] [1] [(0, 0), (0, 0), (1, 1), (1, 1), (1, 1), (0, 1), (0, 1), (1, 1), (1, 1), (1, 1), (1, 1), (1, 1), (1, 1), (1, 1), (1, 1), (1, 1), (1, 1), (1, 1), (1, 1), (1, 1), (1, 1), (1, 1), (1, 1), (1, 1), (1, 1), (1, 1)] bw ⟨?_, ?_, ?_, ?_, ?_, ?_, ?_, ?_, ?_, ?_, ?_, ?_, ?_, ?_, ?_, ?_, ?_, ?_, ?_, ?_, ?_, ?_, ?_, ?_, ?_, ?_, trivial⟩ ?_
 exact ob1 0 fun _ _ (aM : Sep _ _ _ _) _ => obl rfl (zl (k := 7) Tryd.isAgg101 Tryd.sizeOf101 rfl rfl (CellsAt.all (aM.blk (i := 1) rfl)) dR)
 refine ob1 0 fun vals _ (bz : Sep _ _ _ _) bA => (obl rfl ?_)
 refine (zu (f := 79) (vals := [.agg (a.cells da0 da1).toArray]) (cap := []) rfl (yP ⟨(bA 0 dc), trivial⟩) Tryd.call79 (Wo (a := a) hda0 hda1 oa bz bo) ?_)
 rintro _ w31 ⟨rfl, bB⟩
 exact fun c d hv' => ⟨(And.intro d bB), trivial⟩
 refine ob1 1 fun _ _ aN _ => ?_
 obtain ⟨e, hS290⟩ := aN
 exact obl rfl (zH (b := sb da1) (o := so da1 + a.no.toNat * 2) e dR)
 exact fun _ _ _ _ _ _ aO => obl rfl (yL (aO 2 dc) dR)
 refine ob1 1 fun _ _ aP aQ => ?_
 obtain ⟨e, aR⟩ := aP
 refine obl rfl ?_
 have H : a.no.toNat < a.cls.length := bo
 obtain ⟨N, E, aE⟩ := hda1.cel H
 rw [← zm default H] at N E aE
 have hsm308 : ((a.cls.getD a.no.toNat default).set).length * 8 ≤ 140737488355328 := E.small
 have aJ := aR.cells N (hda1.foot (ne_of_lt H))
 exact zg (v := Iv ((a.cls.getD a.no.toNat default).n)) Tryd.isAgg3 (aQ 3 dc) (aJ.get (j := 0) rfl) dR
 exact fun _ _ _ _ _ _ _ => obl rfl (XV rfl dR)
 refine fun I _ _ bC bD Q R => ?_
 have hkk : I = 0 ∨ I = 1 := by have h1 : 0 ≤ I := bC; have h2 : I ≤ 1 := bD; omega
 rcases hkk with rfl | rfl
 have aS : Sep _ _ _ _ := Q
 exact obl rfl (zg (v := Iv ((a.fld.moves.getD a.arg.toNat default).frm)) Tryd.isAgg3 (R 5 dc) (zh (aS.blk (i := 0) rfl) rfl) dR)
 obtain ⟨e, aT⟩ := Q
 exact obl rfl (zg (v := Iv ((a.fld.moves.getD a.arg.toNat default).frm)) Tryd.isAgg3 (R 5 dc) (zh (aT.blk (i := 0) rfl) rfl) dR)
 refine ob1 1 fun _ _ aU S => ?_
 obtain ⟨e, hS332⟩ := aU
 exact obl rfl (zP (k := .i64) (a := (a.cls.getD a.no.toNat default).n) (b := (a.fld.moves.getD a.arg.toNat default).frm) (S 4 dc) (S 6 dc) dR)
 exact fun _ _ _ _ _ _ aV => obl rfl (zb (v := .bool (decide (((a.cls.getD a.no.toNat default).n) = ((a.fld.moves.getD a.arg.toNat default).frm)))) (aV 7 dc) dR)
 refine fun _ _ _ _ _ _ aW => (zN rfl rfl (aW 8 dc) (fun D => ?_) (fun D => fun c d _ => ⟨trivial, d.trans (if_neg D).symm⟩))
 have T := D
 have T := tD T
 exact Zl rfl (fun c d _ => ⟨rfl, d.trans (if_pos D).symm⟩)
 refine ob1 1 fun _ _ aX U => ?_
 obtain ⟨e, aY⟩ := aX
 refine zN rfl rfl (U 8 dc) (fun x => ?_) (fun x => fun c d _ => ⟨trivial, d.trans (if_neg x).symm⟩)
 have V := x
 have V := tD V
 exact zg (v := Iv ((a.fld.moves.getD a.arg.toNat default).need)) Tryd.isAgg3 (show _ = (Ix u 2 : Value) from (Eq.trans (U 9 dc) (if_pos x))) (zh (aY.blk (i := 0) rfl) rfl) (fun c d _ => ⟨rfl, d.trans (if_pos x).symm⟩)
 refine ob1 1 fun _ _ aZ X => ?_
 obtain ⟨e, hS368⟩ := aZ
 refine zN rfl rfl (X 8 dc) (fun y => ?_) (fun y => fun c d _ => ⟨trivial, d.trans (if_neg y).symm⟩)
 have Y := y
 have Y := tD Y
 exact zL (k := .i64) (a := (a.fld.moves.getD a.arg.toNat default).need) (b := 0) (show _ = (Iv ((a.fld.moves.getD a.arg.toNat default).need) : Value) from (Eq.trans (X 10 dc) (if_pos y))) rfl (fun c d _ => ⟨rfl, d.trans (if_pos y).symm⟩)
 refine fun _ _ _ _ _ _ Z => (zN rfl rfl (Z 8 dc) (fun z => ?_) (fun z => fun c d _ => ⟨trivial, d.trans (if_neg z).symm⟩))
 have aa := z
 have aa := tD aa
 exact zb (v := .bool (decide (((a.fld.moves.getD a.arg.toNat default).need) < 0))) (show _ = (.bool (decide (((a.fld.moves.getD a.arg.toNat default).need) < 0)) : Value) from (Eq.trans (Z 11 dc) (if_pos z))) (fun c d _ => ⟨rfl, d.trans (if_pos z).symm⟩)
 refine fun _ _ _ _ _ _ ba => (xg rfl rfl (ba 12 dc) (fun A => ?_) (fun A => fun c d _ => ⟨trivial, d.trans (if_neg A).symm⟩))
 have ab := A.1
 have ab := tD ab
 have ac := A.2
 have ac := fD ac
 exact Wa rfl (fun c d _ => ⟨rfl, d.trans (if_pos A).symm⟩)
 refine ob1 1 fun _ _ bb ad => ?_
 obtain ⟨e, bc⟩ := bb
 refine xg rfl rfl (ad 12 dc) (fun l => ?_) (fun l => fun c d _ => ⟨trivial, d.trans (if_neg l).symm⟩)
 have ae := l.1
 have ae := tD ae
 have af := l.2
 have af := fD af
 exact zg (v := da1) Tryd.isAgg26 (show _ = (Ix b2 4 : Value) from (Eq.trans (ad 13 dc) (if_pos ⟨l.1, l.2⟩))) (zh (bc.blk (i := 1) rfl) rfl) (fun c d _ => ⟨rfl, d.trans (if_pos l).symm⟩)
 refine fun _ _ _ _ _ _ bd => (xg rfl rfl (bd 12 dc) (fun B => ?_) (fun B => fun c d _ => ⟨trivial, d.trans (if_neg B).symm⟩))
 have ag := B.1
 have ag := tD ag
 have ah := B.2
 have ah := fD ah
 exact Zl rfl (fun c d _ => ⟨rfl, d.trans (if_pos B).symm⟩)
 refine ob1 1 fun _ _ be ai => ?_
 obtain ⟨e, bf⟩ := be
 refine xg rfl rfl (ai 12 dc) (fun m => ?_) (fun m => fun c d _ => ⟨trivial, d.trans (if_neg m).symm⟩)
 have aj := m.1
 have aj := tD aj
 have ak := m.2
 have ak := fD ak
 exact zg (v := Iv ((a.fld.moves.getD a.arg.toNat default).need)) Tryd.isAgg3 (show _ = (Ix u 2 : Value) from (Eq.trans (ai 15 dc) (if_pos ⟨m.1, m.2⟩))) (zh (bf.blk (i := 0) rfl) rfl) (fun c d _ => ⟨rfl, d.trans (if_pos m).symm⟩)
 refine ob1 1 fun _ _ bg J => ?_
 obtain ⟨e, hS433⟩ := bg
 refine xg rfl rfl (J 12 dc) (fun g => ?_) (fun g => fun c d _ => ⟨trivial, d.trans (if_neg g).symm⟩)
 have al := g.1
 have al := tD al
 have am := g.2
 have am := fD am
 have hi440 : ((a.fld.moves.getD a.arg.toNat default).need).toNat < a.cls.length := bo
 exact zz (k := 2) (i := (a.fld.moves.getD a.arg.toNat default).need) Tryd.underlying26 Tryd.sizeOf42 (show _ = (da1 : Value) from (Eq.trans (J 14 dc) (if_pos ⟨g.1, g.2⟩))) hda1.sl (show _ = (Iv ((a.fld.moves.getD a.arg.toNat default).need) : Value) from (Eq.trans (J 16 dc) (if_pos ⟨g.1, g.2⟩))) ⟨by omega, by omega⟩ (fun c d _ => ⟨rfl, d.trans (if_pos g).symm⟩)
 refine fun _ _ _ _ _ _ an => (xg rfl rfl (an 12 dc) (fun p => ?_) (fun p => fun c d _ => ⟨trivial, d.trans (if_neg p).symm⟩))
 have ao := p.1
 have ao := tD ao
 have ap := p.2
 have ap := fD ap
 exact yL (show _ = (Ix (sb da1) (so da1 + (((a.fld.moves.getD a.arg.toNat default).need).toNat) * 2) : Value) from (Eq.trans (an 17 dc) (if_pos ⟨p.1, p.2⟩))) (fun c d _ => ⟨rfl, d.trans (if_pos p).symm⟩)
 refine ob1 1 fun _ _ bh aq => ?_
 obtain ⟨e, bi⟩ := bh
 refine xg rfl rfl (aq 12 dc) (fun q => ?_) (fun q => fun c d _ => ⟨trivial, d.trans (if_neg q).symm⟩)
 have ar := q.1
 have ar := tD ar
 have au := q.2
 have au := fD au
 have K : ((a.fld.moves.getD a.arg.toNat default).need).toNat < a.cls.length := bo
 obtain ⟨O, F, aF⟩ := hda1.cel K
 rw [← zm default K] at O F aF
 have hsm466 : ((a.cls.getD (((a.fld.moves.getD a.arg.toNat default).need).toNat) default).set).length * 8 ≤ 140737488355328 := F.small
 have aK := bi.cells O (hda1.foot (ne_of_lt K))
 exact zg (v := Iv ((a.cls.getD (((a.fld.moves.getD a.arg.toNat default).need).toNat) default).n)) Tryd.isAgg3 (show _ = (Ix (sb da1) (so da1 + (((a.fld.moves.getD a.arg.toNat default).need).toNat) * 2) : Value) from (Eq.trans (aq 18 dc) (if_pos ⟨q.1, q.2⟩))) (aK.get (j := 0) rfl) (fun c d _ => ⟨rfl, d.trans (if_pos q).symm⟩)
 refine fun _ _ _ _ _ _ bj => (xg rfl rfl (bj 12 dc) (fun C => ?_) (fun C => fun c d _ => ⟨trivial, d.trans (if_neg C).symm⟩))
 have av := C.1
 have av := tD av
 have aw := C.2
 have aw := fD aw
 exact Wl rfl (fun c d _ => ⟨rfl, d.trans (if_pos C).symm⟩)
 refine ob1 1 fun _ _ bk ax => ?_
 obtain ⟨e, bl⟩ := bk
 refine xg rfl rfl (ax 12 dc) (fun s => ?_) (fun s => fun c d _ => ⟨trivial, d.trans (if_neg s).symm⟩)
 have ay := s.1
 have ay := tD ay
 have az := s.2
 have az := fD az
 exact zg (v := Iv ((a.fld.moves.getD a.arg.toNat default).least)) Tryd.isAgg3 (show _ = (Ix u 3 : Value) from (Eq.trans (ax 20 dc) (if_pos ⟨s.1, s.2⟩))) (zh (bl.blk (i := 0) rfl) rfl) (fun c d _ => ⟨rfl, d.trans (if_pos s).symm⟩)
 refine ob1 1 fun _ _ bm L => ?_
 obtain ⟨e, hS496⟩ := bm
 refine xg rfl rfl (L 12 dc) (fun h => ?_) (fun h => fun c d _ => ⟨trivial, d.trans (if_neg h).symm⟩)
 have aA := h.1
 have aA := tD aA
 have aB := h.2
 have aB := fD aB
 exact yY (k := .i64) (a := (a.cls.getD (((a.fld.moves.getD a.arg.toNat default).need).toNat) default).n) (b := (a.fld.moves.getD a.arg.toNat default).least) (show _ = (Iv ((a.cls.getD (((a.fld.moves.getD a.arg.toNat default).need).toNat) default).n) : Value) from (Eq.trans (L 19 dc) (if_pos ⟨h.1, h.2⟩))) (show _ = (Iv ((a.fld.moves.getD a.arg.toNat default).least) : Value) from (Eq.trans (L 21 dc) (if_pos ⟨h.1, h.2⟩))) (fun c d _ => ⟨rfl, d.trans (if_pos h).symm⟩)
 refine fun _ _ _ _ _ _ M => (zN rfl rfl (M 8 dc) (fun t => ?_) (fun t => fun c d _ => ⟨trivial, d.trans (if_neg t).symm⟩))
 have aC := t
 have aC := tD aC
 exact zG (b := decide (((a.fld.moves.getD a.arg.toNat default).need) < 0)) (b' := decide (((a.fld.moves.getD a.arg.toNat default).least) ≤ ((a.cls.getD (((a.fld.moves.getD a.arg.toNat default).need).toNat) default).n))) (show _ = (.bool (decide (((a.fld.moves.getD a.arg.toNat default).need) < 0)) : Value) from (Eq.trans (M 12 dc) (if_pos t))) (fun hbp => (show _ = (.bool (decide (((a.fld.moves.getD a.arg.toNat default).least) ≤ ((a.cls.getD (((a.fld.moves.getD a.arg.toNat default).need).toNat) default).n))) : Value) from (Eq.trans (M 22 dc) (if_pos ⟨t, hbp⟩)))) (fun c d _ => ⟨rfl, d.trans (if_pos t).symm⟩)
 exact fun _ _ _ _ _ _ aD => obl rfl (zx (b := decide (((a.cls.getD a.no.toNat default).n) = ((a.fld.moves.getD a.arg.toNat default).frm))) (b' := (decide (((a.fld.moves.getD a.arg.toNat default).need) < 0)) || (decide (((a.fld.moves.getD a.arg.toNat default).least) ≤ ((a.cls.getD (((a.fld.moves.getD a.arg.toNat default).need).toNat) default).n)))) (aD 8 dc) (fun hbp => (show _ = (.bool ((decide (((a.fld.moves.getD a.arg.toNat default).need) < 0)) || (decide (((a.fld.moves.getD a.arg.toNat default).least) ≤ ((a.cls.getD (((a.fld.moves.getD a.arg.toNat default).need).toNat) default).n)))) : Value) from (Eq.trans (aD 23 dc) (if_pos hbp)))) dR)
 exact fun _ _ _ _ _ _ bn => obl rfl (ze (v := .bool ((decide (((a.cls.getD a.no.toNat default).n) = ((a.fld.moves.getD a.arg.toNat default).frm))) && ((decide (((a.fld.moves.getD a.arg.toNat default).need) < 0)) || (decide (((a.fld.moves.getD a.arg.toNat default).least) ≤ ((a.cls.getD (((a.fld.moves.getD a.arg.toNat default).need).toNat) default).n)))))) (bn 24 dc) dR)
 intro vals w529 bp bq
 obtain ⟨e, br⟩ := bp
 have bE := bq 25 dc
 refine yf (kv := [(0, .agg (a.cells da0 da1).toArray), (1, Ix b2 0), (2, .bool ((decide (((a.cls.getD a.no.toNat default).n) = ((a.fld.moves.getD a.arg.toNat default).frm))) && ((decide (((a.fld.moves.getD a.arg.toNat default).need) < 0)) || (decide (((a.fld.moves.getD a.arg.toNat default).least) ≤ ((a.cls.getD (((a.fld.moves.getD a.arg.toNat default).need).toNat) default).n)))))), (4, Ix b2 0), (5, Ix b2 3), (6, da0), (7, Ix b2 6), (8, Iv (a.arg)), (9, Ix (sb da0) (so da0 + a.arg.toNat * 4)), (10, .agg ((a.fld.moves.getD a.arg.toNat default).cells).toArray), (3, Ix u 0)]) ⟨rfl, rfl, (by exact bE), rfl, rfl, rfl, rfl, rfl, rfl, rfl, rfl, trivial⟩ (fun ρw529 => (zf (zt ?_)))
 refine zO Tryd.results85 (show _ = (.bool ((decide (((a.cls.getD a.no.toNat default).n) = ((a.fld.moves.getD a.arg.toNat default).frm))) && ((decide (((a.fld.moves.getD a.arg.toNat default).need) < 0)) || (decide (((a.fld.moves.getD a.arg.toNat default).least) ≤ ((a.cls.getD (((a.fld.moves.getD a.arg.toNat default).need).toNat) default).n))))) : Value) from rfl) ?_
 have bs := br.s2_
 refine ⟨?_, bs⟩
 unfold yV
 rw [if_neg (by decide), if_neg (by decide), if_pos rfl]
 rfl

end Go.Proofs.YtlblilbmpdejgaaDoor
/- Steps of the proofs of this seat: part C3. -/
set_option maxRecDepth 8000
namespace Go.Proofs.YtlblilbmpdejgaaDoor
open Go.Proofs Go.RowKit

structure Rul where
  may : Nat
  does : Nat
instance : Rep Rul where
  k := 2
  rd _ _ cs x := cs = [.func (.func x.may) #[] #[], .func (.func x.does) #[] #[]]
  bytes := 16
  bpos := by decide
  kpos := by decide
  len h := by rw [h]; rfl
  one h := by rw [h]; exact ya ⟨rfl, rfl, trivial⟩
  mono h _ := h
instance : Flat Rul := ⟨fun h => h⟩
def xG : List (Int × Rul) := [(1, ⟨77, 78⟩), (2, ⟨80, 81⟩), (3, ⟨82, 83⟩), (4, ⟨80, 84⟩), (5, ⟨85, 86⟩)]
theorem Xn {op : Int} (h : op ≠ 1 ∧ op ≠ 2 ∧ op ≠ 3 ∧ op ≠ 4 ∧ op ≠ 5) : xT xG op = none := by
  unfold xT
  rw [Option.map_eq_none_iff, List.find?_eq_none]
  intro p hp
  simp only [xG, List.mem_cons, List.not_mem_nil, or_false] at hp
  rcases hp with rfl | rfl | rfl | rfl | rfl <;> simp <;> omega
theorem VU {G : Nat → Prop} {W w : World} {Rs : List HP}  (hS0 : Sep G W Rs w) : Ret Tryd.prog 52 [] w (fun r w' => ∃ (m : Nat), r = (.map (some m) : Value) ∧ Sep G W ((Zm (α := Rul) m xG) :: Rs) w') := by
 refine zr (args := []) Tryd.func52 rfl rfl ?_
 refine zd (za kr (fun _ => (st (ze (v := .map none) rfl (zf (zd (za kr (fun _ => (st (ZR ?_))))))))))
 intro D x
 obtain ⟨a, l⟩ : ∃ z, z = w.heap.size := ⟨_, rfl⟩; rw [← l]
 have n : Sep G W ((Zm (α := Rul) a []) :: Rs) D := (by rw [l]; exact hS0.mapNew x)
 refine st (zQ (parts' := [(0, .func (.func 77) #[] #[]), (1, .func (.func 78) #[] #[])]) (v := .agg #[.func (.func 77) #[] #[], .func (.func 78) #[] #[]]) rfl (by simp [Instr.build, Instr.fill, Ev.cells, go_sem, Mv.cells, Fld.cells, Typ.cells, Prj.cells, Dcl.cells, Cel.cells, AskR.cells, Ask.cells]) (stn (Zc (α := Rul) (F := fun _ => False) (x1 := (⟨77, 78⟩ : Rul)) (cs := [.func (.func 77) #[] #[], .func (.func 78) #[] #[]]) Tryd.underlying98 Tryd.underlying3 rfl rfl rfl (by decide) (n.map_ (i := 0) rfl) rfl (fun h => h) ?_)))
 intro E y p
 have o : Sep G W ((Zm (α := Rul) a (xJ ([] : List (Int × Rul)) 1 (⟨77, 78⟩ : Rul))) :: Rs) E := n.mapPut (i := 0) rfl y p
 refine st (zQ (parts' := [(0, .func (.func 80) #[] #[]), (1, .func (.func 81) #[] #[])]) (v := .agg #[.func (.func 80) #[] #[], .func (.func 81) #[] #[]]) rfl (by simp [Instr.build, Instr.fill, Ev.cells, go_sem, Mv.cells, Fld.cells, Typ.cells, Prj.cells, Dcl.cells, Cel.cells, AskR.cells, Ask.cells]) (stn (Zc (α := Rul) (F := fun _ => False) (x1 := (⟨80, 81⟩ : Rul)) (cs := [.func (.func 80) #[] #[], .func (.func 81) #[] #[]]) Tryd.underlying98 Tryd.underlying3 rfl rfl rfl (by decide) (o.map_ (i := 0) rfl) rfl (fun h => h) ?_)))
 intro H q f
 have b : Sep G W ((Zm (α := Rul) a (xJ (xJ ([] : List (Int × Rul)) 1 (⟨77, 78⟩ : Rul)) 2 (⟨80, 81⟩ : Rul))) :: Rs) H := o.mapPut (i := 0) rfl q f
 refine st (zQ (parts' := [(0, .func (.func 82) #[] #[]), (1, .func (.func 83) #[] #[])]) (v := .agg #[.func (.func 82) #[] #[], .func (.func 83) #[] #[]]) rfl (by simp [Instr.build, Instr.fill, Ev.cells, go_sem, Mv.cells, Fld.cells, Typ.cells, Prj.cells, Dcl.cells, Cel.cells, AskR.cells, Ask.cells]) (stn (Zc (α := Rul) (F := fun _ => False) (x1 := (⟨82, 83⟩ : Rul)) (cs := [.func (.func 82) #[] #[], .func (.func 83) #[] #[]]) Tryd.underlying98 Tryd.underlying3 rfl rfl rfl (by decide) (b.map_ (i := 0) rfl) rfl (fun h => h) ?_)))
 intro A s g
 have c : Sep G W ((Zm (α := Rul) a (xJ (xJ (xJ ([] : List (Int × Rul)) 1 (⟨77, 78⟩ : Rul)) 2 (⟨80, 81⟩ : Rul)) 3 (⟨82, 83⟩ : Rul))) :: Rs) A := b.mapPut (i := 0) rfl s g
 refine st (zQ (parts' := [(0, .func (.func 80) #[] #[]), (1, .func (.func 84) #[] #[])]) (v := .agg #[.func (.func 80) #[] #[], .func (.func 84) #[] #[]]) rfl (by simp [Instr.build, Instr.fill, Ev.cells, go_sem, Mv.cells, Fld.cells, Typ.cells, Prj.cells, Dcl.cells, Cel.cells, AskR.cells, Ask.cells]) (stn (Zc (α := Rul) (F := fun _ => False) (x1 := (⟨80, 84⟩ : Rul)) (cs := [.func (.func 80) #[] #[], .func (.func 84) #[] #[]]) Tryd.underlying98 Tryd.underlying3 rfl rfl rfl (by decide) (c.map_ (i := 0) rfl) rfl (fun h => h) ?_)))
 intro B t j
 have d : Sep G W ((Zm (α := Rul) a (xJ (xJ (xJ (xJ ([] : List (Int × Rul)) 1 (⟨77, 78⟩ : Rul)) 2 (⟨80, 81⟩ : Rul)) 3 (⟨82, 83⟩ : Rul)) 4 (⟨80, 84⟩ : Rul))) :: Rs) B := c.mapPut (i := 0) rfl t j
 refine st (zQ (parts' := [(0, .func (.func 85) #[] #[]), (1, .func (.func 86) #[] #[])]) (v := .agg #[.func (.func 85) #[] #[], .func (.func 86) #[] #[]]) rfl (by simp [Instr.build, Instr.fill, Ev.cells, go_sem, Mv.cells, Fld.cells, Typ.cells, Prj.cells, Dcl.cells, Cel.cells, AskR.cells, Ask.cells]) (stn (Zc (α := Rul) (F := fun _ => False) (x1 := (⟨85, 86⟩ : Rul)) (cs := [.func (.func 85) #[] #[], .func (.func 86) #[] #[]]) Tryd.underlying98 Tryd.underlying3 rfl rfl rfl (by decide) (d.map_ (i := 0) rfl) rfl (fun h => h) ?_)))
 intro C u k
 have e : Sep G W ((Zm (α := Rul) a (xJ (xJ (xJ (xJ (xJ ([] : List (Int × Rul)) 1 (⟨77, 78⟩ : Rul)) 2 (⟨80, 81⟩ : Rul)) 3 (⟨82, 83⟩ : Rul)) 4 (⟨80, 84⟩ : Rul)) 5 (⟨85, 86⟩ : Rul))) :: Rs) C := d.mapPut (i := 0) rfl u k
 refine st (zb (v := .map (some a)) rfl (st (ze (v := .map (some a)) rfl (zf (zt (zO Tryd.results52 (show _ = (.map (some a) : Value) from rfl) ?_))))))
 have hz : xJ (xJ (xJ (xJ (xJ ([] : List (Int × Rul)) 1 (⟨77, 78⟩ : Rul)) 2 (⟨80, 81⟩ : Rul)) 3 (⟨82, 83⟩ : Rul)) 4 (⟨80, 84⟩ : Rul)) 5 (⟨85, 86⟩ : Rul) = xG := rfl
 rw [hz] at e
 refine ⟨a, rfl, e⟩

theorem Xz {op : Int} (h : op = 1 ∨ op = 2 ∨ op = 3 ∨ op = 4 ∨ op = 5) : ∃ x, xT xG op = some x := by rcases h with rfl | rfl | rfl | rfl | rfl <;> exact ⟨_, rfl⟩
theorem XC {op : Int} {x : Rul} (h : op = 1 ∨ op = 2 ∨ op = 3 ∨ op = 4 ∨ op = 5) (hx : xT xG op = some x) : (∀ args w, (callFunc x.may args).run Tryd.prog w = .ok (.enter x.may args) w) ∧ (∀ args w, (callFunc x.does args).run Tryd.prog w = .ok (.enter x.does args) w) := by
  rcases h with rfl | rfl | rfl | rfl | rfl <;> cases hx
  · exact ⟨Tryd.call77, Tryd.call78⟩
  · exact ⟨Tryd.call80, Tryd.call81⟩
  · exact ⟨Tryd.call82, Tryd.call83⟩
  · exact ⟨Tryd.call80, Tryd.call84⟩
  · exact ⟨Tryd.call85, Tryd.call86⟩
theorem KZ {G : Nat → Prop} {W w : World} {Rs : List HP} {op : Int} {x : Rul} {a : AskR} {da0 : Value} (hda0 : RdS W G da0 a.fld.moves) {da1 : Value} (hda1 : RdS W G da1 a.cls) (oa : a.Ok) (hS0 : Sep G W Rs w) (hx : xT xG op = some x) (hop : op = 1 ∨ op = 2 ∨ op = 3 ∨ op = 4 ∨ op = 5) (hak : 0 ≤ a.no ∧ a.no < a.cls.length ∧ ((op = 3 ∨ op = 4) → Asc (yj a.cls a.no).set) ∧ (op = 5 → 0 ≤ a.arg ∧ a.arg < a.fld.moves.length ∧ ((Zk a.fld a.arg).need < 0 ∨ (Zk a.fld a.arg).need < a.cls.length))) : Ret Tryd.prog x.may [.agg (a.cells da0 da1).toArray] w (fun r w' => r = (.bool (yV a.fld a.cls (yj a.cls a.no) op a.arg) : Value) ∧ Sep G W Rs w') := by
  rcases hop with rfl | rfl | rfl | rfl | rfl <;> cases hx
  · exact UL hda0 hda1 oa hS0 ⟨hak.1, hak.2.1⟩
  · exact WV hda0 hda1 oa hS0
  · exact Qy hda0 hda1 oa hS0 ⟨hak.1, hak.2.1⟩ (hak.2.2.1 (.inl rfl))
  · exact WV hda0 hda1 oa hS0
  · exact Ux hda0 hda1 oa hS0 ⟨hak.1, hak.2.1⟩ ⟨(hak.2.2.2 rfl).1, (hak.2.2.2 rfl).2.1⟩ (hak.2.2.2 rfl).2.2
theorem Jg {d : Option Tmp} {ty : TypeId} {pos : String} {af : Array Edge} {g : Option (Nat × Bool)} {σ : Env} {w : World} {K : Value → World → Prop} {x : Operand} {b o : Nat} (hx : ev σ x = .pointer (some ⟨b, o, none⟩)) (h : K (.pointer (some ⟨b, o + 0, none⟩)) w) : opV Tryd.prog ⟨d, .fieldAddr 96 x 0, ty, pos, af, g⟩ σ w K := zA Tryd.underlying96 rfl rfl (fun w => ⟨0, Tryd.sizeOf93 w⟩) hx h
theorem yA {d : Option Tmp} {ty : TypeId} {pos : String} {af : Array Edge} {g : Option (Nat × Bool)} {σ : Env} {w : World} {K : Value → World → Prop} {x : Operand} {b o : Nat} (hx : ev σ x = .pointer (some ⟨b, o, none⟩)) (h : K (.pointer (some ⟨b, o + 0, none⟩)) w) : opV Tryd.prog ⟨d, .fieldAddr 33 x 0, ty, pos, af, g⟩ σ w K := zA Tryd.underlying33 rfl rfl (fun w => ⟨0, Tryd.sizeOf31 w⟩) hx h
set_option maxHeartbeats 4000000 in
theorem D_May {G : Nat → Prop} {W w : World} {Rs : List HP} {t : Typ} {dt0 : Value} (hdt0 : RdS W G dt0 t.fields) (ot : t.Ok) {vc : Value} {c : List Cel} (hc : RdS W G vc c) {f : Int} (hf : InR f) {op : Int} (hop : InR op) {arg : Int} (harg : InR arg) (hS0 : Sep G W Rs w) (hak : Yy t c f op arg) : Ret Tryd.prog 16 [.agg (t.cells dt0).toArray, vc, .int .i64 (f), .int .i64 (op), .int .i64 (arg)] w (fun r w' => r = (.int .i64 (yU t c f op arg) : Value) ∧ Sep G W Rs w') := by
 have hdt0s : _ * 48 ≤ _ := hdt0.small
 have hcs : _ * 32 ≤ _ := hc.small
 have hf0 := hak.1; have hf1 := hak.2.1; have hf2 := hak.2.2.1
 refine zr (args := [.agg (t.cells dt0).toArray, vc, Iv f, Iv op, Iv arg]) Tryd.func16 rfl rfl ?_
 refine zd (za kr (fun _ => (st (zT (v := .agg (t.cells dt0).toArray) rfl ?_))))
 intro w3 b2 aT
 have aU := hS0.new aT
 refine st (ze (v := Iv 0) rfl (zf (zd (zd (za kr (fun _ => (st (zu (f := 52) (vals := []) (cap := []) rfl rfl Tryd.call52 (VU  aU) ?_))))))))
 rintro _ w6 ⟨U, rfl, E⟩
 refine st (zb (v := Iv op) rfl ?_)
 have hops : (op = 1 ∨ op = 2 ∨ op = 3 ∨ op = 4 ∨ op = 5) ∨ (op ≠ 1 ∧ op ≠ 2 ∧ op ≠ 3 ∧ op ≠ 4 ∧ op ≠ 5) := by omega
 rcases hops with hop | hop
 obtain ⟨rx, hrx⟩ := Xz hop
 refine st (ZL (α := Rul) (a := rx) Tryd.underlying98 Tryd.underlying3 rfl rfl (E.map_ (i := 0) rfl) hrx ?_)
 rintro _ rfl
 refine st (zb (v := .tuple #[.agg #[.func (.func rx.may) #[] #[], .func (.func rx.does) #[] #[]], .bool true]) rfl (st (zE (vs := [.agg #[.func (.func rx.may) #[] #[], .func (.func rx.does) #[] #[]], .bool true]) (i := 0) (v := .agg #[.func (.func rx.may) #[] #[], .func (.func rx.does) #[] #[]]) rfl rfl (st (zE (vs := [.agg #[.func (.func rx.may) #[] #[], .func (.func rx.does) #[] #[]], .bool true]) (i := 1) (v := .bool true) rfl rfl (st (zB Tryd.zeroValue96 ?_)))))))
 intro w10 b9 aV
 have V := E.new aV
 refine stn (zy (v := .agg #[.func (.func rx.may) #[] #[], .func (.func rx.does) #[] #[]]) (c' := #[.func (.func rx.may) #[] #[], .func (.func rx.does) #[] #[]]) Tryd.sizeOf96 rfl rfl (V.blk (i := 0) rfl) (ya ⟨rfl, rfl, trivial⟩) (Nat.le_of_ble_eq_true rfl) rfl ?_)
 intro w12 aL
 have aM := V.pt0 aL
 refine st (ze (v := .bool true) rfl (zf (zd ?_)))
 refine WD4 ((fun TT z => WF [fun vals C => Sep G W (z :: TT) C, fun vals C => (vals 13 = (.bool (yV (⟨((t.fields.getD f.toNat default)), c, f, arg⟩ : AskR).fld (⟨((t.fields.getD f.toNat default)), c, f, arg⟩ : AskR).cls (yj (⟨((t.fields.getD f.toNat default)), c, f, arg⟩ : AskR).cls (⟨((t.fields.getD f.toNat default)), c, f, arg⟩ : AskR).no) op (⟨((t.fields.getD f.toNat default)), c, f, arg⟩ : AskR).arg) : Value)) ∧ Sep G W (z :: TT) C]) ((Zm (α := Rul) U xG) :: (Blk b2 (t.cells dt0).toArray 33) :: Rs) (Blk b9 #[.func (.func rx.may) #[] #[], .func (.func rx.does) #[] #[]] 96)) (AF [Vl 0 (.bool true), Vl 1 (.bool true), Vl 2 (Ix b9 0), Vl 3 (.func (.func rx.may) #[] #[]), Vl 4 (Ix b2 0), Vl 5 (dt0), Vl 6 (Iv f), Vl 7 (Ix (sb dt0) (so dt0 + f.toNat * 4)), Vl 8 (.agg ((t.fields.getD f.toNat default).cells (zi W (sb dt0) (so dt0 + f.toNat * 4 + 3))).toArray), Vl 9 (vc), Vl 10 (Iv f), Vl 11 (Iv arg), Vl 12 (.agg ((⟨((t.fields.getD f.toNat default)), c, f, arg⟩ : AskR).cells (zi W (sb dt0) (so dt0 + f.toNat * 4 + 3)) vc).toArray), fun _ => True, Vl 14 (.bool (!(yV (⟨((t.fields.getD f.toNat default)), c, f, arg⟩ : AskR).fld (⟨((t.fields.getD f.toNat default)), c, f, arg⟩ : AskR).cls (yj (⟨((t.fields.getD f.toNat default)), c, f, arg⟩ : AskR).cls (⟨((t.fields.getD f.toNat default)), c, f, arg⟩ : AskR).no) op (⟨((t.fields.getD f.toNat default)), c, f, arg⟩ : AskR).arg))), Vl 15 (.bool (!(yV (⟨((t.fields.getD f.toNat default)), c, f, arg⟩ : AskR).fld (⟨((t.fields.getD f.toNat default)), c, f, arg⟩ : AskR).cls (yj (⟨((t.fields.getD f.toNat default)), c, f, arg⟩ : AskR).cls (⟨((t.fields.getD f.toNat default)), c, f, arg⟩ : AskR).no) op (⟨((t.fields.getD f.toNat default)), c, f, arg⟩ : AskR).arg)))]) [[], [0], [0, 1], [0, 1, 2], [0, 1], [0, 1, 4], [0, 1], [0, 1, 4, 5, 6], [0, 1, 4, 5, 6, 7], [0, 1], [0, 1], [0, 1], [0, 1, 4, 5, 6, 7, 8, 9, 10, 11], (rg 13), (rg 14), (rg 15)] [13] [(0, 0), (0, 0), (0, 0), (0, 0), (0, 0), (0, 0), (0, 0), (0, 0), (0, 0), (0, 0), (0, 0), (0, 0), (0, 0), (0, 0), (1, 1), (1, 1)] aM ⟨?_, ?_, ?_, ?_, ?_, ?_, ?_, ?_, ?_, ?_, ?_, ?_, ?_, ?_, ?_, ?_, trivial⟩ ?_
 exact fun _ _ _ _ _ _ _ => obl rfl (zb (v := .bool true) rfl dR)
 exact fun _ _ _ _ _ _ Z => obl rfl (zb (v := .bool true) (Z 0 dc) dR)
 refine fun _ _ _ _ _ _ aa => (zN rfl rfl (aa 1 dc) (fun _ => ?_) (fun hb => absurd rfl hb))
 exact Jg rfl dR
 refine ob1 0 fun _ _ (ab : Sep _ _ _ _) F => (zN rfl rfl (F 1 dc) (fun _ => ?_) (fun hb => absurd rfl hb))
 exact zg (v := .func (.func rx.may) #[] #[]) Tryd.isAgg93 (F 2 dc) (zh (ab.blk (i := 0) rfl) rfl) dR
 refine fun _ _ _ _ _ _ ac => (zN rfl rfl (ac 1 dc) (fun _ => ?_) (fun hb => absurd rfl hb))
 exact yA rfl dR
 refine ob1 0 fun _ _ (ad : Sep _ _ _ _) H => (zN rfl rfl (H 1 dc) (fun _ => ?_) (fun hb => absurd rfl hb))
 exact zg (v := dt0) Tryd.isAgg31 (H 4 dc) (zh (ad.blk (i := 2) rfl) rfl) dR
 refine fun _ _ _ _ _ _ ae => (zN rfl rfl (ae 1 dc) (fun _ => ?_) (fun hb => absurd rfl hb))
 exact zb (v := Iv f) rfl dR
 refine ob1 0 fun _ _ _ p => (zN rfl rfl (p 1 dc) (fun _ => ?_) (fun hb => absurd rfl hb))
 have hi224 : f.toNat < t.fields.length := (by have h1 := hak.1; have h2 := hak.2.1; have h3 := hak.2.2.1; omega)
 exact zz (k := 4) (i := f) Tryd.underlying31 Tryd.sizeOf79 (p 5 dc) hdt0.sl (p 6 dc) ⟨by omega, by omega⟩ dR
 refine ob1 0 fun _ _ (af : Sep _ _ _ _) I => (zN rfl rfl (I 1 dc) (fun _ => ?_) (fun hb => absurd rfl hb))
 have q : f.toNat < t.fields.length := (by have h1 := hak.1; have h2 := hak.2.1; have h3 := hak.2.2.1; omega)
 obtain ⟨A, n, T⟩ := hdt0.fld q
 rw [← zm default q] at A n T
 have hsm236 : ((t.fields.getD f.toNat default).moves).length * 32 ≤ 140737488355328 := n.small
 have X := af.cells A (hdt0.foot (ne_of_lt q))
 exact zl (k := 4) Tryd.isAgg79 Tryd.sizeOf79 rfl (I 7 dc) X dR
 refine fun _ _ _ _ _ _ ag => (zN rfl rfl (ag 1 dc) (fun _ => ?_) (fun hb => absurd rfl hb))
 exact zb (v := vc) rfl dR
 refine fun _ _ _ _ _ _ ah => (zN rfl rfl (ah 1 dc) (fun _ => ?_) (fun hb => absurd rfl hb))
 exact zb (v := Iv f) rfl dR
 refine fun _ _ _ _ _ _ ai => (zN rfl rfl (ai 1 dc) (fun _ => ?_) (fun hb => absurd rfl hb))
 exact zb (v := Iv arg) rfl dR
 refine fun _ _ _ _ _ _ g => (zN rfl rfl (g 1 dc) (fun _ => ?_) (fun hb => absurd rfl hb))
 have J : f.toNat < t.fields.length := (by have h1 := hak.1; have h2 := hak.2.1; have h3 := hak.2.2.1; omega)
 obtain ⟨Y, o, j⟩ := hdt0.fld J
 rw [← zm default J] at Y o j
 have hsm272 : ((t.fields.getD f.toNat default).moves).length * 32 ≤ 140737488355328 := o.small
 have ok273 : AskR.Ok (⟨((t.fields.getD f.toNat default)), c, f, arg⟩ : AskR) := ⟨⟨(show InR ((t.fields.getD f.toNat default).kind) from j.kind), (show InR ((t.fields.getD f.toNat default).policy) from j.policy)⟩, (show InR (f) from om), (show InR (arg) from om)⟩
 exact zQ (parts' := [(0, .agg ((t.fields.getD f.toNat default).cells (zi W (sb dt0) (so dt0 + f.toNat * 4 + 3))).toArray), (1, vc), (2, Iv f), (3, Iv arg)]) (v := .agg ((⟨((t.fields.getD f.toNat default)), c, f, arg⟩ : AskR).cells (zi W (sb dt0) (so dt0 + f.toNat * 4 + 3)) vc).toArray) (xF ⟨rfl, (g 8 (by decide)), rfl, (g 9 (by decide)), rfl, (g 10 (by decide)), rfl, (g 11 (by decide)), trivial⟩) (by obtain ⟨_, _, aj, _⟩ := hc.sl; rw [show vc = Value.slice _ _ _ from aj]; simp [Instr.build, Instr.fill, Ev.cells, go_sem, Mv.cells, Fld.cells, Typ.cells, Prj.cells, Dcl.cells, Cel.cells, AskR.cells, Ask.cells]) dR
 refine ob1 0 fun vals _ (K : Sep _ _ _ _) s => (zN rfl rfl (s 1 dc) (fun _ => ?_) (fun hb => absurd rfl hb))
 have u : f.toNat < t.fields.length := (by have h1 := hak.1; have h2 := hak.2.1; have h3 := hak.2.2.1; omega)
 obtain ⟨B, e, l⟩ := hdt0.fld u
 rw [← zm default u] at B e l
 have hsm140 : ((t.fields.getD f.toNat default).moves).length * 32 ≤ 140737488355328 := e.small
 have hcw141 := K.cells B (hdt0.foot (ne_of_lt u))
 have ak : AskR.Ok (⟨((t.fields.getD f.toNat default)), c, f, arg⟩ : AskR) := ⟨⟨(show InR ((t.fields.getD f.toNat default).kind) from l.kind), (show InR ((t.fields.getD f.toNat default).policy) from l.policy)⟩, (show InR (f) from om), (show InR (arg) from om)⟩
 refine (zu (f := rx.may) (vals := [.agg ((⟨((t.fields.getD f.toNat default)), c, f, arg⟩ : AskR).cells (zi W (sb dt0) (so dt0 + f.toNat * 4 + 3)) vc).toArray]) (cap := []) (show _ = (.func (.func rx.may) #[] #[] : Value) from (s 3 dc)) (yP ⟨(s 12 dc), trivial⟩) (XC hop hrx).1 (KZ (a := (⟨((t.fields.getD f.toNat default)), c, f, arg⟩ : AskR)) e hc ak K (hrx) (hop) (⟨hak.1, hak.2.2.1, hak.2.2.2.1, hak.2.2.2.2⟩)) ?_)
 rintro _ w143 ⟨rfl, al⟩
 exact fun b d aW => ⟨(And.intro d al), trivial⟩
 refine ob1 1 fun _ _ am an => ?_
 obtain ⟨L, hS281⟩ := am
 refine zN rfl rfl (an 1 dc) (fun _ => ?_) (fun hb => absurd rfl hb)
 exact yt (a := yV (⟨((t.fields.getD f.toNat default)), c, f, arg⟩ : AskR).fld (⟨((t.fields.getD f.toNat default)), c, f, arg⟩ : AskR).cls (yj (⟨((t.fields.getD f.toNat default)), c, f, arg⟩ : AskR).cls (⟨((t.fields.getD f.toNat default)), c, f, arg⟩ : AskR).no) op (⟨((t.fields.getD f.toNat default)), c, f, arg⟩ : AskR).arg) L dR
 exact fun _ _ _ _ _ _ M => obl rfl (zX (v := .bool (!(yV (⟨((t.fields.getD f.toNat default)), c, f, arg⟩ : AskR).fld (⟨((t.fields.getD f.toNat default)), c, f, arg⟩ : AskR).cls (yj (⟨((t.fields.getD f.toNat default)), c, f, arg⟩ : AskR).cls (⟨((t.fields.getD f.toNat default)), c, f, arg⟩ : AskR).no) op (⟨((t.fields.getD f.toNat default)), c, f, arg⟩ : AskR).arg))) (M 1 dc) (M 14 dc) dR)
 intro vals w291 ao ap
 obtain ⟨L, N⟩ := ao
 have aQ := ap 15 dc
 refine yf (kv := [(0, .agg (t.cells dt0).toArray), (1, vc), (2, Iv f), (3, Iv op), (4, Iv arg), (5, Ix b2 0), (10, Iv 0), (14, .map (some U)), (15, Iv op), (16, .tuple #[.agg #[.func (.func rx.may) #[] #[], .func (.func rx.does) #[] #[]], .bool true]), (13, .tuple #[.agg #[.func (.func rx.may) #[] #[], .func (.func rx.does) #[] #[]], .bool true]), (17, .agg #[.func (.func rx.may) #[] #[], .func (.func rx.does) #[] #[]]), (18, .bool true), (11, Ix b9 0), (12, .bool true), (34, .bool (!(yV (⟨((t.fields.getD f.toNat default)), c, f, arg⟩ : AskR).fld (⟨((t.fields.getD f.toNat default)), c, f, arg⟩ : AskR).cls (yj (⟨((t.fields.getD f.toNat default)), c, f, arg⟩ : AskR).cls (⟨((t.fields.getD f.toNat default)), c, f, arg⟩ : AskR).no) op (⟨((t.fields.getD f.toNat default)), c, f, arg⟩ : AskR).arg)))]) ⟨rfl, rfl, rfl, rfl, rfl, rfl, rfl, rfl, rfl, rfl, rfl, rfl, rfl, rfl, rfl, (by exact aQ), trivial⟩ (fun ρw291 => (zf ?_))
 cases m : !(yV (⟨((t.fields.getD f.toNat default)), c, f, arg⟩ : AskR).fld (⟨((t.fields.getD f.toNat default)), c, f, arg⟩ : AskR).cls (yj (⟨((t.fields.getD f.toNat default)), c, f, arg⟩ : AskR).cls (⟨((t.fields.getD f.toNat default)), c, f, arg⟩ : AskR).no) op (⟨((t.fields.getD f.toNat default)), c, f, arg⟩ : AskR).arg)
 try simp only [zj] at m
 refine zn rfl (zv (zd (za kr (fun _ => (st (ze (v := Iv 0) rfl (zf (zt (zO Tryd.results16 (show _ = (Iv 0 : Value) from rfl) ?_)))))))))
 have aq := N.s3_
 refine ⟨?_, aq⟩
 have hm : yV (yK t f) c (yj c f) op arg = true := m
 unfold yU
 rw [hm]
 rfl
 try simp only [zj] at m
 refine zo rfl (zd (za kr (fun _ => (st (ze (v := Iv 10) rfl (zf (zt (zO Tryd.results16 (show _ = (Iv 10 : Value) from rfl) ?_))))))))
 have ar := N.s3_
 refine ⟨?_, ar⟩
 have hm : yV (yK t f) c (yj c f) op arg = false := m
 unfold yU
 rw [hm]
 rfl
 refine st (ZJ (α := Rul) (zc := [.nilFunc, .nilFunc]) Tryd.underlying98 Tryd.underlying3 Tryd.zeroValue96 rfl rfl (E.map_ (i := 0) rfl) (Xn hop) (st (zb (v := .tuple #[.agg #[.nilFunc, .nilFunc], .bool false]) rfl (st (zE (vs := [.agg #[.nilFunc, .nilFunc], .bool false]) (i := 0) (v := .agg #[.nilFunc, .nilFunc]) rfl rfl (st (zE (vs := [.agg #[.nilFunc, .nilFunc], .bool false]) (i := 1) (v := .bool false) rfl rfl (st (zB Tryd.zeroValue96 ?_)))))))))
 intro w301 D au
 have O := E.new au
 refine stn (zy (v := .agg #[.nilFunc, .nilFunc]) (c' := #[.nilFunc, .nilFunc]) Tryd.sizeOf96 rfl rfl (O.blk (i := 0) rfl) (ya ⟨rfl, rfl, trivial⟩) (Nat.le_of_ble_eq_true rfl) rfl ?_)
 intro w303 av
 have aw := O.pt0 av
 refine st (ze (v := .bool false) rfl (zf (zd (WD4 ((fun TT z => WF [fun vals C => Sep G W (z :: TT) C, fun vals C => Sep G W (z :: TT) C]) ((Zm (α := Rul) U xG) :: (Blk b2 (t.cells dt0).toArray 33) :: Rs) (Blk D #[.nilFunc, .nilFunc] 96)) (AF [Vl 0 (.bool false), Vl 1 (.bool false), Vl 2 (undef), Vl 3 (undef), Vl 4 (undef), Vl 5 (undef), Vl 6 (undef), Vl 7 (undef), Vl 8 (undef), Vl 9 (undef), Vl 10 (undef), Vl 11 (undef), Vl 12 (undef), fun _ => True, Vl 14 (undef), Vl 15 (.bool false)]) [[], [0], [0, 1], [0, 1, 2], [0, 1], [0, 1, 4], [0, 1], [0, 1, 4, 5, 6], [0, 1, 4, 5, 6, 7], [0, 1], [0, 1], [0, 1], [0, 1, 4, 5, 6, 7, 8, 9, 10, 11], (rg 13), (rg 14), (rg 15)] [13] [(0, 0), (0, 0), (0, 0), (0, 0), (0, 0), (0, 0), (0, 0), (0, 0), (0, 0), (0, 0), (0, 0), (0, 0), (0, 0), (0, 0), (1, 1), (1, 1)] aw ⟨?_, ?_, ?_, ?_, ?_, ?_, ?_, ?_, ?_, ?_, ?_, ?_, ?_, ?_, ?_, ?_, trivial⟩ ?_))))
 exact fun _ _ _ _ _ _ _ => obl rfl (zb (v := .bool false) rfl dR)
 exact fun _ _ _ _ _ _ ax => obl rfl (zb (v := .bool false) (ax 0 dc) dR)
 exact fun _ _ _ _ _ _ ay => (zN rfl rfl (ay 1 dc) (fun hb => absurd hb dc) (fun _ b d _ => ⟨trivial, d⟩))
 refine ob1 0 fun _ _ _ P => ?_
 have e463 := P 2 dc
 exact zN rfl rfl (P 1 dc) (fun hb => absurd hb dc) (fun _ b d _ => ⟨trivial, d⟩)
 exact fun _ _ _ _ _ _ az => (zN rfl rfl (az 1 dc) (fun hb => absurd hb dc) (fun _ b d _ => ⟨trivial, d⟩))
 refine ob1 0 fun _ _ _ Q => ?_
 have e479 := Q 4 dc
 exact zN rfl rfl (Q 1 dc) (fun hb => absurd hb dc) (fun _ b d _ => ⟨trivial, d⟩)
 exact fun _ _ _ _ _ _ aA => (zN rfl rfl (aA 1 dc) (fun hb => absurd hb dc) (fun _ b d _ => ⟨trivial, d⟩))
 refine ob1 0 fun _ _ _ x => ?_
 have e495 := x 5 dc
 have e496 := x 6 dc
 exact zN rfl rfl (x 1 dc) (fun hb => absurd hb dc) (fun _ b d _ => ⟨trivial, d⟩)
 refine ob1 0 fun _ _ _ R => ?_
 have e505 := R 7 dc
 exact zN rfl rfl (R 1 dc) (fun hb => absurd hb dc) (fun _ b d _ => ⟨trivial, d⟩)
 exact fun _ _ _ _ _ _ aB => (zN rfl rfl (aB 1 dc) (fun hb => absurd hb dc) (fun _ b d _ => ⟨trivial, d⟩))
 exact fun _ _ _ _ _ _ aC => (zN rfl rfl (aC 1 dc) (fun hb => absurd hb dc) (fun _ b d _ => ⟨trivial, d⟩))
 exact fun _ _ _ _ _ _ aD => (zN rfl rfl (aD 1 dc) (fun hb => absurd hb dc) (fun _ b d _ => ⟨trivial, d⟩))
 refine fun _ _ _ _ _ _ h => ?_
 have e534 := h 8 dc
 have e535 := h 9 dc
 have e536 := h 10 dc
 have e537 := h 11 dc
 exact zN rfl rfl (h 1 dc) (fun hb => absurd hb dc) (fun _ b d _ => ⟨trivial, d⟩)
 refine ob1 0 fun _ aR (aE : Sep _ _ _ _) y => ?_
 have e417 := y 3 dc
 have e418 := y 12 dc
 refine zN rfl rfl (y 1 dc) (fun hb => absurd hb dc) (fun _ b d aW => ?_)
 refine ⟨?_, trivial⟩
 show Sep G W ((Blk D #[.nilFunc, .nilFunc] 96) :: (Zm (α := Rul) U xG) :: (Blk b2 (t.cells dt0).toArray 33) :: Rs) aR
 exact aE
 exact ob1 1 fun _ _ _ aF => (zN rfl rfl (aF 1 dc) (fun hb => absurd hb dc) (fun _ b d _ => ⟨trivial, d⟩))
 refine fun _ _ _ _ _ _ S => ?_
 have e553 := S 14 dc
 exact obl rfl (yg (v := .bool false) (S 1 dc) rfl dR)
 intro vals w554 aG aH
 have aI : Sep _ _ _ _ := aG
 have aS := aH 15 dc
 refine yf (kv := [(0, .agg (t.cells dt0).toArray), (1, vc), (2, Iv f), (3, Iv op), (4, Iv arg), (5, Ix b2 0), (10, Iv 0), (14, .map (some U)), (15, Iv op), (16, .tuple #[.agg #[.nilFunc, .nilFunc], .bool false]), (13, .tuple #[.agg #[.nilFunc, .nilFunc], .bool false]), (17, .agg #[.nilFunc, .nilFunc]), (18, .bool false), (11, Ix D 0), (12, .bool false), (34, .bool false)]) ⟨rfl, rfl, rfl, rfl, rfl, rfl, rfl, rfl, rfl, rfl, rfl, rfl, rfl, rfl, rfl, (by exact aS), trivial⟩ (fun ρw554 => (zf (zn rfl (zv (zd (za kr (fun _ => (st (ze (v := Iv 0) rfl (zf (zt (zO Tryd.results16 (show _ = (Iv 0 : Value) from rfl) ?_))))))))))))
 have aJ := aI.s3_
 refine ⟨?_, aJ⟩
 have hm : yV (yK t f) c (yj c f) op arg = true := by unfold yV; rw [if_neg hop.1, if_neg hop.2.2.1, if_neg hop.2.2.2.2]
 unfold yU
 rw [hm]
 rfl

end Go.Proofs.YtlblilbmpdejgaaDoor
/- The shelf's Insert and Delete, laid at this program. -/
namespace Go.Proofs.YtlblilbmpdejgaaDoor
open Go.Proofs Go.Shelf

def Qe : Go.Shelf.Ren := ⟨fun | 21 => 95 | 27 => 103 | 28 => 104 | 35 => 107 | 39 => 109 | 23 => 96 | n => n, fun | 0 => 0 | 3 => 3 | 4 => 4 | 22 => 40 | n => n, fun | n => n⟩
theorem Ji : Go.Proofs.Lays2.n21 Tryd.prog Qe := {
  mixed := by kernel_rfl,
  f21 := Tryd.func95.trans (congrArg some (by kernel_rfl)),
  f27 := Tryd.func103.trans (congrArg some (by kernel_rfl)),
  f28 := Tryd.func104.trans (congrArg some (by kernel_rfl)),
  f35 := Tryd.func107.trans (congrArg some (by kernel_rfl)),
  f39 := Tryd.func109.trans (congrArg some (by kernel_rfl)),
  t0 := Tryd.underlying0,
  a0 := Tryd.isAgg0,
  z0 := Tryd.sizeOf0,
  v0 := Tryd.zeroValue0,
  t3 := Tryd.underlying3,
  a3 := Tryd.isAgg3,
  z3 := Tryd.sizeOf3,
  v3 := Tryd.zeroValue3,
  t4 := Tryd.underlying4,
  a4 := Tryd.isAgg4,
  z4 := Tryd.sizeOf4,
  v4 := Tryd.zeroValue4,
  t22 := Tryd.underlying40,
  a22 := Tryd.isAgg40,
  z22 := Tryd.sizeOf40,
  v22 := Tryd.zeroValue40,
  i3 := by kernel_rfl
}
theorem Jl : Go.Proofs.Lays2.n23 Tryd.prog Qe := {
  mixed := by kernel_rfl,
  f23 := Tryd.func96.trans (congrArg some (by kernel_rfl)),
  t0 := Tryd.underlying0,
  a0 := Tryd.isAgg0,
  z0 := Tryd.sizeOf0,
  v0 := Tryd.zeroValue0,
  t3 := Tryd.underlying3,
  a3 := Tryd.isAgg3,
  z3 := Tryd.sizeOf3,
  v3 := Tryd.zeroValue3,
  t4 := Tryd.underlying4,
  a4 := Tryd.isAgg4,
  z4 := Tryd.sizeOf4,
  v4 := Tryd.zeroValue4,
  t22 := Tryd.underlying40,
  a22 := Tryd.isAgg40,
  z22 := Tryd.sizeOf40,
  v22 := Tryd.zeroValue40,
  i3 := by kernel_rfl
}
end Go.Proofs.YtlblilbmpdejgaaDoor
/- slices.Insert and slices.Delete of numbers, at rows of one's own, by the shelf's contracts. -/
namespace Go.Proofs.YtlblilbmpdejgaaDoor
open Go.RowKit Go.Sort

structure Wr (w w' : World) (b : Nat) (c' : List Value) (T : TypeId) : Prop where
  at_ : ∃ a : Array Value, a.toList = c' ∧ w'.heap[b]? = some (.cells a T)
  other : ∀ i, i ≠ b → w'.heap[i]? = w.heap[i]?
  size : w'.heap.size = w.heap.size
  os : w'.os = w.os
  tape : w'.tape = w.tape
  output : w'.output = w.output
  drawn : w.drawn ≤ w'.drawn
theorem Wr.trans {w1 w2 w3 : World} {b : Nat} {c c' : List Value} {T : TypeId} (h : Wr w1 w2 b c T) (k : Wr w2 w3 b c' T) : Wr w1 w3 b c' T :=
  ⟨k.at_, fun i hi => (k.other i hi).trans (h.other i hi), k.size.trans h.size, k.os.trans h.os, k.tape.trans h.tape, k.output.trans h.output, Nat.le_trans h.drawn k.drawn⟩
theorem Wr.drew {w : World} {b : Nat} {a : Array Value} {T : TypeId} (h : w.heap[b]? = some (.cells a T)) : Wr w w.drew b a.toList T := ⟨⟨a, rfl, h⟩, fun _ _ => rfl, rfl, rfl, rfl, rfl, Nat.le_succ _⟩
theorem Wr.ahead {w : World} {b q : Nat} {a : Array Value} {T : TypeId} (h : w.heap[b]? = some (.cells a T)) : Wr w (Sort.ahead w q) b a.toList T := ⟨⟨a, rfl, h⟩, fun _ _ => rfl, rfl, rfl, rfl, rfl, Nat.le_add_right _ _⟩
theorem Wr.chg {w w' : World} {b : Nat} {c : List Value} {T : TypeId} (h : Wr w w' b c T) {c0 : Array Value} (h0 : w.heap[b]? = some (.cells c0 T)) : Chg (fun i => i = b) w w' :=
  ⟨h.os, h.tape, h.output, Nat.le_of_eq h.size.symm, fun i _ hne => h.other i hne, fun i ⟨a, t, hi⟩ => by
    by_cases e : i = b
    · subst e; obtain ⟨z, _, hz⟩ := h.at_; exact ⟨z, T, hz⟩
    · exact ⟨a, t, by rw [h.other i e]; exact hi⟩, h.drawn⟩
theorem VF {w : World} {b o : Nat} {a : Array Value} {T : TypeId} (h : w.heap[b]? = some (.cells a T)) (v : Value) : Wr w (w.setCell ⟨b, o, none⟩ v) b (a.toList.set o v) T := by
  refine ⟨⟨a.setIfInBounds o v, by simp, ?_⟩, fun i hi => ?_, by simp [World.setCell], rfl, rfl, rfl, Nat.le_refl _⟩
  · simp [World.setCell, Array.getElem?_modify, h]
  · simp only [World.setCell, Array.getElem?_modify]; rw [if_neg (fun e => hi e.symm)]
def UX (c : List Value) (o : Nat) : List Value → List Value
  | [] => c
  | v :: vs => UX (c.set o v) (o + 1) vs
theorem xu {b : Nat} {T : TypeId} : ∀ (vs : List Value) (o : Nat) (w : World) (a : Array Value), w.heap[b]? = some (.cells a T) → Wr w (w.setCells b o vs) b (UX a.toList o vs) T
  | [], _, w, a, h => ⟨⟨a, rfl, h⟩, fun _ _ => rfl, rfl, rfl, rfl, rfl, Nat.le_refl _⟩
  | v :: vs, o, w, a, h => by
    have h1 := VF (o := o) h v
    obtain ⟨a1, e1, h2⟩ := h1.at_
    have h3 := xu vs (o + 1) _ a1 h2
    rw [e1] at h3
    exact h1.trans h3
theorem ZA : ∀ (vs : List Value) (o : Nat) (c : List Value), o + vs.length ≤ c.length → UX c o vs = c.take o ++ vs ++ c.drop (o + vs.length)
  | [], o, c, _ => by simp [UX]
  | v :: vs, o, c, h => by
    simp only [List.length_cons] at h
    rw [UX, ZA vs (o + 1) (c.set o v) (by simp; omega)]
    have e1 : (c.set o v).take (o + 1) = c.take o ++ [v] := by
      rw [List.take_set, List.take_succ_eq_append_getElem (by omega), List.set_append_right _ _ (by simp; omega), List.length_take, Nat.min_eq_left (by omega), Nat.sub_self]; rfl
    have e2 : (c.set o v).drop (o + 1 + vs.length) = c.drop (o + 1 + vs.length) := by rw [List.drop_set_of_lt (by omega)]
    rw [e1, e2, List.length_cons, show o + 1 + vs.length = o + (vs.length + 1) by omega]
    simp only [List.append_assoc, List.cons_append, List.nil_append]

section
variable {G : Nat → Prop} {W w : World} {Rs : List HP} {Ti : TypeId} {v : Value} {l : List Int}
def yy (l : List Int) : List Value := l.map fun x => Value.int .i64 x
theorem XF {q : List Value → Int → Prop} (hq : ∀ cs x, q cs x → cs = [.int .i64 x]) : ∀ {css : List (List Value)} {l : List Int}, EP q css l → css.flatten = yy l
  | [], [], _ => rfl
  | _ :: _, _ :: _, h => by rw [List.flatten_cons, hq _ _ h.1, XF hq h.2]; rfl
  | [], _ :: _, h => h.elim
  | _ :: _, [], h => h.elim
theorem Vp {q : List Value → Int → Prop} : ∀ {l : List Int}, (∀ x ∈ l, q [.int .i64 x] x) → EP q (l.map fun x => [Value.int .i64 x]) l
  | [], _ => trivial
  | x :: l, h => ⟨h x (by simp), Vp (fun y hy => h y (by simp [hy]))⟩
theorem Yg (l : List Int) : (l.map fun x => [Value.int .i64 x]).flatten = yy l := by
  induction l with
  | nil => rfl
  | cons x l ih => simp [yy] at *; exact ih
theorem Sep.intRow (h : Sep G W (RowE (α := Int) own Ti v l :: Rs) w) : (∀ x ∈ l, InR x) ∧ l.length * 8 ≤ 140737488355328 ∧ ((v = .slice none 0 0 ∧ l = []) ∨ ∃ g cap cur, v = .slice (some ⟨g, 0, none⟩) l.length cap ∧ w.heap[g]? = some (.cells cur Ti) ∧ l.length ≤ cap ∧ cap ≤ maxLen ∧ cur.size = cap ∧ cur.toList.take l.length = yy l ∧
    ∀ w' v' (l' : List Int) cur', Wr w w' g cur' Ti → v' = .slice (some ⟨g, 0, none⟩) l'.length cap → l'.length ≤ cap → cur'.length = cap → cur'.take l'.length = yy l' → (∀ x ∈ l', InR x) → l'.length * 8 ≤ 140737488355328 → Sep G W (RowE (α := Int) own Ti v' l' :: Rs) w') := by
  obtain ⟨f, hA, hl, hT⟩ := h.take (i := 0) rfl
  obtain ⟨css, hE, hown, hrow, hsm⟩ := hA
  have hin : ∀ x ∈ l, InR x := by
    intro x hx
    obtain ⟨i, hi, rfl⟩ := List.getElem_of_mem hx
    exact (EP.at2 hE i (by rw [hE.length]; exact hi) hi).2
  refine ⟨hin, hsm, ?_⟩
  have hcf : css.flatten = yy l := XF (fun cs x h => h.1) hE
  rcases hown.2 with ⟨rfl, h0⟩ | ⟨g, cap, cur, rfl, hg, hb, hn, hm, hs, ht⟩
  · exact .inl ⟨rfl, List.length_eq_zero_iff.1 h0⟩
  · have hk : Rep.k Int = 1 := rfl
    rw [hk, Nat.mul_one] at hs ht
    refine .inr ⟨g, cap, cur, rfl, hb, hn, hm, hs, by rw [ht, hcf], fun w' v' l' cur' hw hv' hl' hc' ht' hin' hsm' => ?_⟩
    obtain ⟨a, ha, hat⟩ := hw.at_
    refine hT w' _ f ((hw.chg hb).weak (fun i _ hi => by subst hi; exact hrow _ rfl)) ⟨l'.map fun x => [Value.int .i64 x], Vp (fun x hx => ⟨rfl, hin' x hx⟩), ⟨by rw [Yg]; simp [yy, hk], .inr ⟨g, cap, a, hv', hg, hat, hl', hm, ?_, ?_⟩⟩, fun b hb' => ?_, hsm'⟩ (fun _ h => .inl h)
    · rw [hk, Nat.mul_one, ← hc', ← ha]; simp
    · rw [hk, Nat.mul_one, Yg, ← ht', ← ha]
    · subst hv'; exact hrow b hb'
theorem Sep.intNew (h : Sep G W Rs w) {w' : World} {cap : Nat} {cur' : List Value} {l' : List Int} {c0 : Array Value} {w1 : World} (hn : New w w1 w.heap.size (.cells c0 Ti)) (hw : Wr w1 w' w.heap.size cur' Ti) (hl' : l'.length ≤ cap) (hc' : cur'.length = cap) (hm : cap ≤ maxLen) (ht' : cur'.take l'.length = yy l') (hin' : ∀ x ∈ l', InR x) (hsm' : l'.length * 8 ≤ 140737488355328) :
    Sep G W (RowE (α := Int) own Ti (.slice (some ⟨w.heap.size, 0, none⟩) l'.length cap) l' :: Rs) w' := by
  obtain ⟨a, ha, hat⟩ := hw.at_
  have hk : Rep.k Int = 1 := rfl
  have hx : Ext w w' := hn.ext.new (hw.chg hn.at_) (fun i hi e => by omega)
  refine h.push hx (f := fun b => b = w.heap.size) ⟨l'.map fun x => [Value.int .i64 x], Vp (fun x hx => ⟨rfl, hin' x hx⟩), ⟨by rw [Yg]; simp [yy, hk], .inr ⟨w.heap.size, cap, a, rfl, Nat.zero_le _, hat, hl', hm, ?_, ?_⟩⟩, fun b hb' => ?_, hsm'⟩ (fun b h => by omega)
  · rw [hk, Nat.mul_one, ← hc', ← ha]; simp
  · rw [hk, Nat.mul_one, Yg, ← ht', ← ha]
  · simp only [Value.ownBlock, Option.some.injEq] at hb'; exact hb'.symm
theorem Sep.intNew' (h : Sep G W Rs w) {w' : World} {cap : Nat} {l' : List Int} {c0 : Array Value} (hn : New w w' w.heap.size (.cells c0 Ti)) (hl' : l'.length ≤ cap) (hc' : c0.toList.length = cap) (hm : cap ≤ maxLen) (ht' : c0.toList.take l'.length = yy l') (hin' : ∀ x ∈ l', InR x) (hsm' : l'.length * 8 ≤ 140737488355328) :
    Sep G W (RowE (α := Int) own Ti (.slice (some ⟨w.heap.size, 0, none⟩) l'.length cap) l' :: Rs) w' :=
  h.intNew hn ⟨⟨c0, rfl, hn.at_⟩, fun _ _ => rfl, rfl, rfl, rfl, rfl, Nat.le_refl _⟩ hl' hc' hm ht' hin' hsm'
theorem VL {w : World} {b o : Nat} {a : Array Value} {T : TypeId} {u : Value} (h : w.heap[b]? = some (.cells a T)) (hu : a.toList[o]? = some u) : w.cell? ⟨b, o, none⟩ = some u := xR h (by simpa using hu)
theorem Wv (l : List Int) : ∀ u ∈ yy l, u.oneCell' = true := by
  intro u hu; simp only [yy, List.mem_map] at hu; obtain ⟨x, _, rfl⟩ := hu; rfl
theorem QG (a b : List Int) : yy (a ++ b) = yy a ++ yy b := by simp [yy]
theorem yx (a : List Int) : (yy a).length = a.length := by simp [yy]
theorem UT (n : Nat) : (Builtin.zeroCells (Value.int .i64 0).cells n).toList.length = n := by simp [Builtin.zeroCells, Value.cells]
theorem Ve (w : World) (o : Obj) : New w (w.alloc o) w.heap.size o := New.mk' w o
theorem Uo (w : World) (o : Obj) : New w (w.drew.alloc o) w.heap.size o :=
  have h : New w.drew (w.drew.alloc o) w.heap.size o := New.mk' w.drew o
  ⟨Chg.trans (WW (w0 := w.drew) rfl rfl rfl ⟨rfl, Nat.le_succ _⟩) h.ext, h.eq, h.size, h.at_⟩

set_option maxHeartbeats 1000000 in
theorem Kr {P : Program} {ρ : Go.Shelf.Ren} (L : Go.Proofs.Lays2.n21 P ρ) {i b : Nat} {x : Int} (hTi : ρ.t 3 = Ti) (hS0 : Sep G W (RowE (α := Int) own Ti v l :: Blk b #[.int .i64 x] Ti :: Rs) w) (hi : i ≤ l.length) (hx : InR x) (hbig : (l.length + 1) * 8 ≤ 140737488355328) :
    Ret P (ρ.f 21) [v, .int .i64 ((i : Nat) : Int), .slice (some ⟨b, 0, none⟩) 1 1] w (fun r w' => Sep G W (RowE (α := Int) own Ti r (l.take i ++ x :: l.drop i) :: Rs) w') := by
  have hb := hS0.blk (i := 1) rfl
  have hvs : ∀ j u, [Value.int .i64 x][j]? = some u → w.cell? ⟨b, 0 + j, none⟩ = some u := fun j u hu => by rw [Nat.zero_add]; exact VL hb hu
  have h1v : ∀ u ∈ [Value.int .i64 x], u.oneCell' = true := by intro u hu; simp at hu; subst hu; rfl
  have hS : Sep G W (RowE (α := Int) own Ti v l :: Rs) w := hS0.sel 2 [0] (Nat.le_add_left _ _) rfl rfl
  have hR : Sep G W Rs w := hS.sel 1 [] (Nat.le_add_left _ _) rfl rfl
  obtain ⟨hin, hsm, hc⟩ := hS.intRow
  have hin' : ∀ y ∈ l.take i ++ x :: l.drop i, InR y := by
    intro y hy
    rcases List.mem_append.1 hy with h | h
    · exact hin y (List.mem_of_mem_take h)
    · rcases List.mem_cons.1 h with rfl | h
      · exact hx
      · exact hin y (List.mem_of_mem_drop h)
  have hlen : (l.take i ++ x :: l.drop i).length = l.length + 1 := by simp; omega
  have hsm' : (l.take i ++ x :: l.drop i).length * 8 ≤ 140737488355328 := by rw [hlen]; exact hbig
  have hml : l.length + 1 ≤ maxLen := by unfold maxLen; omega
  have henc : yy (l.take i ++ x :: l.drop i) = yy (l.take i) ++ [.int .i64 x] ++ yy (l.drop i) := by simp [yy]
  have hend : i = l.length → yy (l.take i ++ x :: l.drop i) = yy l ++ [.int .i64 x] := fun e => by subst e; rw [henc, List.take_length, List.drop_length]; simp [yy]
  have grow : ∀ (base : Option Addr) (c : Nat), v = .slice base l.length c → i = l.length → c < l.length + 1 → l.length ≤ c → (base = none → l.length = 0) → (∀ a, base = some a → ∀ j u, (yy l)[j]? = some u → w.cell? (a.add j) = some u) →
      Ret P (ρ.f 21) [v, .int .i64 ((i : Nat) : Int), .slice (some ⟨b, 0, none⟩) 1 1] w (fun r w' => Sep G W (RowE (α := Int) own Ti r (l.take i ++ x :: l.drop i) :: Rs) w') := by
    intro base c hv hil hcl hlc hnil hcs
    have h := Any2.slices_Insert_int_end_grow L base l.length c b 0 1 1 (yy l) [.int .i64 x] w (by omega) hlc hcl hbig (yx l) rfl hnil hcs hvs h1v
    subst hv
    refine Calls.mono (by subst hil; exact h) ?_
    rintro e w' ⟨rfl, rfl⟩
    refine ⟨_, rfl, ?_⟩
    rw [hTi]
    have hg := grownCap_ge w (l.length + 1) c Ti
    have hgm := grownCap_le_maxLen w (l.length + 1) c Ti hml
    have hn := Uo w (.cells ((yy l ++ [Value.int .i64 x]).toArray ++ Builtin.zeroCells (Value.int .i64 0).cells (grownCap w (l.length + 1) c Ti - (l.length + 1))) Ti)
    have := hR.intNew' hn (cap := grownCap w (l.length + 1) c Ti) (l' := l.take i ++ x :: l.drop i) (by rw [hlen]; exact hg) ?_ hgm ?_ hin' hsm'
    · rw [hlen] at this; exact this
    · simp only [Array.toList_append, List.length_append, yx, UT, List.length_cons, List.length_nil]; omega
    · rw [hlen, hend hil]
      simp only [Array.toList_append]
      rw [List.take_append_of_le_length (by simp [yx])]
      exact List.take_of_length_le (by simp [yx])
  rcases hc with ⟨rfl, rfl⟩ | ⟨g, cap, cur, rfl, hg, hlc, hcm, hcs, ht, back⟩
  · exact grow none 0 rfl (by simpa using hi) (by simp) (by simp) (fun _ => rfl) (fun a h => by cases h)
  · have hne : b ≠ g := by
      obtain ⟨f1, f2, hA, hB, hd, _, _⟩ := hS0.apart2 (i := 0) (j := 1) rfl rfl (by decide)
      obtain ⟨_, _, _, hrow, _⟩ := hA
      exact fun e => hd g (hrow g rfl) (e ▸ hB.2)
    have hcells : ∀ j u, (yy l)[j]? = some u → w.cell? ⟨g, 0 + j, none⟩ = some u := fun j u hu => by
      rw [Nat.zero_add]
      refine VL hg ?_
      rw [← ht, List.getElem?_take] at hu
      split at hu
      · exact hu
      · cases hu
    have hlc' : cur.toList.length = cap := by simpa using hcs
    have hcell : ∀ j, j < cap → (w.cell? ⟨g, 0 + j, none⟩).isSome = true := fun j hj => by
      rw [Nat.zero_add, VL hg (List.getElem?_eq_getElem (by omega))]; rfl
    have hfz : ∀ j, w.frozen? ⟨g, j, none⟩ = false := fun j => by simp [World.frozen?, hg]
    by_cases hil : i = l.length
    · by_cases hroom : l.length + 1 ≤ cap
      · have h := Any2.slices_Insert_int_end_room L g 0 l.length cap b 0 1 1 [.int .i64 x] w (by omega) hroom (by unfold maxLen at hcm; omega) rfl (fun j hj => by rw [Nat.add_assoc]; exact hcell _ (by omega)) (fun j _ => hfz _) hvs h1v
        refine Calls.mono (by subst hil; exact h) ?_
        rintro e w' ⟨rfl, rfl⟩
        refine ⟨_, rfl, ?_⟩
        have hw := xu [.int .i64 x] (0 + l.length) w cur hg
        rw [Nat.zero_add, ZA _ _ _ (by simp only [List.length_cons, List.length_nil]; omega)] at hw
        rw [Nat.zero_add]
        refine back _ _ _ _ hw (by rw [hlen]) (by rw [hlen]; exact hroom) (by simp; omega) ?_ hin' hsm'
        rw [hlen, hend hil, ht, List.take_append_of_le_length (by simp [yx])]
        exact List.take_of_length_le (by simp [yx])
      · exact grow (some ⟨g, 0, none⟩) cap rfl hil (by omega) hlc (fun h => by cases h) (fun a ha j u hu => by cases ha; rw [ZW]; exact hcells j u hu)
    · have hlt : i < l.length := by omega
      have ed : (yy l).drop i = yy (l.drop i) := by simp [yy, List.map_drop]
      have et : (yy l).take i = yy (l.take i) := by simp [yy, List.map_take]
      by_cases hroom : l.length + 1 ≤ cap
      · have h := Any2.slices_Insert_int_shift L g 0 l.length cap i b 0 1 1 (yy l) [.int .i64 x] w hlt (by omega) hroom (by unfold maxLen at hcm; omega) hne (yx l) rfl hcells (fun j hj => hcell j (by omega)) (fun j _ => by rw [Nat.zero_add]; exact hfz _) hvs (Wv l) h1v
          Ti Ti 1 cap (by simp [World.shape?, hb]) (by simp [World.shape?, hg, hcs]) (by omega) (by simp [World.frozen?, hb]) (by simp [World.frozen?, hb])
        refine Calls.mono h ?_
        rintro e w' ⟨rfl, rfl⟩
        refine ⟨_, rfl, ?_⟩
        have h1 := Wr.drew hg
        obtain ⟨a1, e1, hg1⟩ := h1.at_
        have h2 := xu ((yy l).drop i) (0 + (i + 1)) w.drew a1 hg1
        rw [e1, Nat.zero_add, ZA _ _ _ (by simp only [List.length_drop, yx]; omega)] at h2
        obtain ⟨a2, e2, hg2⟩ := h2.at_
        have h3 := xu [.int .i64 x] (0 + i) _ a2 hg2
        rw [e2, Nat.zero_add, ZA _ _ _ (by simp only [List.length_append, List.length_take, List.length_drop, yx, List.length_cons, List.length_nil]; omega)] at h3
        rw [Nat.zero_add, Nat.zero_add]
        refine back _ _ _ _ ((h1.trans h2).trans h3) (by rw [hlen]) (by rw [hlen]; exact hroom) (by simp [yx]; omega) ?_ hin' hsm'
        rw [hlen, henc, ed]
        have k1 : (cur.toList.take (i + 1) ++ yy (l.drop i) ++ cur.toList.drop (i + 1 + (yy (l.drop i)).length)).take i = yy (l.take i) := by
          rw [List.append_assoc, List.take_append_of_le_length (by simp; omega), List.take_take, Nat.min_eq_left (by omega), ← et, ← ht, List.take_take, Nat.min_eq_left (by omega)]
        have k2 : (cur.toList.take (i + 1) ++ yy (l.drop i) ++ cur.toList.drop (i + 1 + (yy (l.drop i)).length)).drop (i + [Value.int .i64 x].length) = yy (l.drop i) ++ cur.toList.drop (i + 1 + (yy (l.drop i)).length) := by
          have hh : (cur.toList.take (i + 1)).length = i + 1 := by rw [List.length_take]; omega
          show (cur.toList.take (i + 1) ++ yy (l.drop i) ++ cur.toList.drop (i + 1 + (yy (l.drop i)).length)).drop (i + 1) = _
          rw [List.append_assoc]; exact List.drop_left' hh
        rw [k1, k2, ← List.append_assoc, List.take_append_of_le_length (by simp [yx]; omega)]
        exact List.take_of_length_le (by simp [yx]; omega)
      · have h := Any2.slices_Insert_int_grow L g 0 l.length cap i b 0 1 1 (yy l) [.int .i64 x] w hlt (by omega) hlc (by omega) hbig (yx l) rfl hcells hvs (Wv l) h1v
        refine Calls.mono h ?_
        rintro e w' ⟨rfl, rfl⟩
        refine ⟨_, rfl, ?_⟩
        rw [hTi]
        have hg' := grownCap_ge w (l.length + 1) cap Ti
        have hgm := grownCap_le_maxLen w (l.length + 1) cap Ti hml
        obtain ⟨gc, hgc⟩ : ∃ gc, gc = grownCap w (l.length + 1) cap Ti := ⟨_, rfl⟩
        rw [← hgc] at hg' hgm ⊢
        have hn := Ve w (.cells (((yy l).take i).toArray ++ Builtin.zeroCells (Value.int .i64 0).cells (l.length + 1 - i) ++ Builtin.zeroCells (Value.int .i64 0).cells (gc - (l.length + 1))) Ti)
        have hlen0 : (((yy l).take i).toArray ++ Builtin.zeroCells (Value.int .i64 0).cells (l.length + 1 - i) ++ Builtin.zeroCells (Value.int .i64 0).cells (gc - (l.length + 1))).toList.length = gc := by
          simp only [Array.toList_append, List.length_append, UT, List.length_take, yx]; omega
        have htk0 : (((yy l).take i).toArray ++ Builtin.zeroCells (Value.int .i64 0).cells (l.length + 1 - i) ++ Builtin.zeroCells (Value.int .i64 0).cells (gc - (l.length + 1))).toList.take i = yy (l.take i) := by
          simp only [Array.toList_append]
          rw [List.append_assoc, List.take_append_of_le_length (by simp [yx]; omega), et]
          exact List.take_of_length_le (by simp [yx]; omega)
        obtain ⟨A0, hA0⟩ : ∃ A0, A0 = ((yy l).take i).toArray ++ Builtin.zeroCells (Value.int .i64 0).cells (l.length + 1 - i) ++ Builtin.zeroCells (Value.int .i64 0).cells (gc - (l.length + 1)) := ⟨_, rfl⟩
        rw [← hA0] at hn hlen0 htk0 ⊢
        have h1 := Wr.drew hn.at_
        obtain ⟨a1, e1, hg1⟩ := h1.at_
        have h2 := xu [.int .i64 x] i _ a1 hg1
        rw [e1, ZA _ _ _ (by simp only [List.length_cons, List.length_nil]; omega)] at h2
        obtain ⟨a2, e2, hg2⟩ := h2.at_
        have h3 := Wr.drew hg2
        obtain ⟨a3, e3, hg3⟩ := h3.at_
        have h4 := xu ((yy l).drop i) (i + 1) _ a3 hg3
        have hl2 : (A0.toList.take i ++ [Value.int .i64 x] ++ A0.toList.drop (i + [Value.int .i64 x].length)).length = gc := by
          simp only [List.length_append, List.length_take, List.length_drop, List.length_cons, List.length_nil]; omega
        rw [e3, e2, ZA _ _ _ (by rw [hl2]; simp only [List.length_drop, yx]; omega)] at h4
        have hpre : (A0.toList.take i ++ [Value.int .i64 x] ++ A0.toList.drop (i + [Value.int .i64 x].length)).take (i + 1) = A0.toList.take i ++ [Value.int .i64 x] := by
          have hh : (A0.toList.take i ++ [Value.int .i64 x]).length = i + 1 := by rw [List.length_append, List.length_take, List.length_cons, List.length_nil]; omega
          exact List.take_left' hh
        have := hR.intNew hn (((h1.trans h2).trans h3).trans h4) (cap := gc) (l' := l.take i ++ x :: l.drop i) (by rw [hlen]; exact hg') ?_ hgm ?_ hin' hsm'
        · rw [hlen] at this; exact this
        · simp only [List.length_append, List.length_take, List.length_drop, hl2, yx]; omega
        · rw [hlen, henc, hpre, htk0, ed, List.take_append_of_le_length (by simp [yx]; omega)]
          exact List.take_of_length_le (by simp [yx]; omega)
theorem Xr (d : List Int) (c : Array Value) (h : d.length ≤ c.size) : (putCells (Value.int .i64) 0 d.toArray c).toList = yy d ++ c.toList.drop d.length := by
  refine List.ext_getElem (by simp [putCells, yy]; omega) (fun j h1 h2 => ?_)
  have hj : j < c.size := by simpa [putCells] using h1
  by_cases hd : j < d.length
  · rw [List.getElem_append_left (by simpa [yy] using hd)]
    simp [putCells, yy, hd]
  · rw [List.getElem_append_right (by simp [yy]; omega)]
    simp [putCells, yy, hd, show d.length + (j - d.length) = j by omega]
theorem Uq {b : Nat} {a : Array Value} {T : TypeId} (h : w.heap[b]? = some (.cells a T)) (d : List Int) (hd : d.length ≤ a.size) : Wr w (putRow (Value.int .i64) w b 0 d.toArray) b (yy d ++ a.toList.drop d.length) T := by
  refine ⟨⟨putCells (Value.int .i64) 0 d.toArray a, Xr d a hd, ?_⟩, fun i hi => ?_, by simp, rfl, rfl, rfl, Nat.le_refl _⟩
  · simp [putRow, mapBlock, Array.getElem?_modify, h, onCells]
  · simp only [putRow, mapBlock, Array.getElem?_modify]; rw [if_neg (fun e => hi e.symm)]
theorem Kn {P : Program} {ρ : Go.Shelf.Ren} (L : Go.Proofs.Lays2.n23 P ρ) {i : Nat} (hS : Sep G W (RowE (α := Int) own Ti v l :: Rs) w) (hi : i < l.length) :
    Ret P (ρ.f 23) [v, .int .i64 ((i : Nat) : Int), .int .i64 ((i + 1 : Nat) : Int)] w (fun r w' => Sep G W (RowE (α := Int) own Ti r (l.take i ++ l.drop (i + 1)) :: Rs) w') := by
  obtain ⟨hin, hsm, hc⟩ := hS.intRow
  rcases hc with ⟨rfl, rfl⟩ | ⟨g, cap, cur, rfl, hg, hlc, hcm, hcs, ht, back⟩
  · exact absurd hi (Nat.not_lt_zero i)
  · have hH : Holds (Value.int .i64) w g 0 l.toArray := by
      intro j hj
      have hj' : j < l.length := by simpa using hj
      refine ⟨?_, by simp [World.frozen?, hg]⟩
      rw [Nat.zero_add]
      refine VL hg ?_
      have : (yy l)[j]? = some (.int .i64 l[j]) := by simp [yy, hj']
      rw [← ht, List.getElem?_take, if_pos hj'] at this
      rw [this]
      simp [hj']
    have h := Any.slices_Delete_int L g 0 cap i (i + 1) l w hH hlc (by unfold maxLen at hcm; omega) (by omega) hi
    refine Calls.mono h ?_
    rintro e w' ⟨rfl, q, rfl⟩
    refine ⟨_, rfl, ?_⟩
    have h1 := Wr.ahead (q := q) hg
    obtain ⟨a1, e1, hg1⟩ := h1.at_
    have ha1 : a1.size = cap := by have := congrArg List.length e1; simpa [hcs] using this
    have hdl : (l.take i ++ l.drop (i + 1) ++ List.replicate (i + 1 - i) 0).length = l.length := by simp; omega
    have h2 := Uq hg1 (l.take i ++ l.drop (i + 1) ++ List.replicate (i + 1 - i) 0) (by rw [hdl]; omega)
    have hlen : (l.take i ++ l.drop (i + 1)).length = l.length - (i + 1 - i) := by simp; omega
    refine back _ _ _ _ (h1.trans h2) (by rw [hlen]) (by rw [hlen]; omega) ?_ ?_ (fun x hx => ?_) (by rw [hlen]; omega)
    · have ha2 : a1.toList.length = cap := by simpa using ha1
      rw [List.length_append, yx, hdl, List.length_drop, ha2]; omega
    · rw [hlen, QG, List.append_assoc, List.take_append_of_le_length (by rw [yx, hlen]; exact Nat.le_refl _)]
      exact List.take_of_length_le (by rw [yx, hlen]; exact Nat.le_refl _)
    · rcases List.mem_append.1 hx with h | h
      · exact hin x (List.mem_of_mem_take h)
      · exact hin x (List.mem_of_mem_drop h)
end
end Go.Proofs.YtlblilbmpdejgaaDoor
/- Steps of the proofs of this seat: part C4. -/
set_option maxRecDepth 8000
namespace Go.Proofs.YtlblilbmpdejgaaDoor
open Go.Proofs Go.RowKit

theorem Qc {G : Nat → Prop} {W w : World} {Rs : List HP} {vl : Value} {l : List Int} {i : Nat} {b : Nat} {x : Int} (hS0 : Sep G W ((RowE (α := Int) own 3 vl l) :: (Blk b #[.int .i64 x] 3) :: Rs) w) (hi : i ≤ l.length) (hx : InR x) (hbig : (l.length + 1) * 8 ≤ 140737488355328) : Ret Tryd.prog 95 [vl, .int .i64 ((i : Nat) : Int), .slice (some ⟨b, 0, none⟩) 1 1] w (fun r w' => ∃ (v : Value), r = (v : Value) ∧ Sep G W ((RowE (α := Int) own 3 v (l.take i ++ x :: l.drop i)) :: Rs) w') := by
  exact Ret.mono (Kr Ji rfl hS0 hi hx hbig) (fun r w1 h => ⟨r, rfl, h⟩)

theorem Qa {G : Nat → Prop} {W w : World} {Rs : List HP} {vl : Value} {l : List Int} {i : Nat}  (hS0 : Sep G W ((RowE (α := Int) own 3 vl l) :: Rs) w) (hi : i < l.length) : Ret Tryd.prog 96 [vl, .int .i64 ((i : Nat) : Int), .int .i64 ((i + 1 : Nat) : Int)] w (fun r w' => ∃ (v : Value), r = (v : Value) ∧ Sep G W ((RowE (α := Int) own 3 v (l.take i ++ l.drop (i + 1))) :: Rs) w') := by
  exact Ret.mono (Kn Jl hS0 hi) (fun r w1 h => ⟨r, rfl, h⟩)

theorem Jh {l : List Int} {i : Nat} {x : Int} (ha : Asc l) (hi : i ≤ l.length) (hlo : ∀ q, q < i → l.getD q 0 < x) (hhi : ∀ q, i ≤ q → q < l.length → x ≤ l.getD q 0) (hn : ¬ x ∈ l) : l.take i ++ x :: l.drop i = Zd l x := by
  have h1 : ∀ y ∈ l.take i, y < x := by
    intro y hy
    obtain ⟨q, hq, rfl⟩ := List.getElem_of_mem hy
    rw [List.length_take] at hq
    have := hlo q (by omega)
    rw [zm _ (by omega)] at this
    rw [List.getElem_take]; exact this
  have h2 : ∀ y ∈ l.drop i, x < y := by
    intro y hy
    obtain ⟨q, hq, rfl⟩ := List.getElem_of_mem hy
    rw [List.length_drop] at hq
    have := hhi (i + q) (by omega) (by omega)
    rw [zm _ (by omega)] at this
    rw [List.getElem_drop]
    have hne : l[i + q] ≠ x := fun e => hn (e ▸ List.getElem_mem _)
    omega
  unfold Zd
  rw [if_neg hn]
  have e1 : l.filter (fun y => decide (y < x)) = l.take i := by
    conv => lhs; rw [← List.take_append_drop i l]
    rw [List.filter_append, List.filter_eq_self.2 (fun y hy => by simpa using h1 y hy), List.filter_eq_nil_iff.2 (fun y hy => by have := h2 y hy; simp; omega), List.append_nil]
  have e2 : l.filter (fun y => decide (x < y)) = l.drop i := by
    conv => lhs; rw [← List.take_append_drop i l]
    rw [List.filter_append, List.filter_eq_nil_iff.2 (fun y hy => by have := h1 y hy; simp; omega), List.filter_eq_self.2 (fun y hy => by simpa using h2 y hy), List.nil_append]
  rw [e1, e2]
theorem Qn {l : List Int} {i : Nat} {x : Int} (ha : Asc l) (hi : i ≤ l.length) (hlo : ∀ q, q < i → l.getD q 0 < x) (hhi : ∀ q, i ≤ q → q < l.length → x ≤ l.getD q 0) (hn : x ∈ l) : i < l.length ∧ l.take i ++ l.drop (i + 1) = xE l x := by
  have hm := Wg ha hi hlo hhi
  rw [decide_eq_true hn] at hm
  have hm2 := hm.symm
  simp only [Bool.and_eq_true, decide_eq_true_eq] at hm2
  obtain ⟨hil, hx⟩ := hm2
  refine ⟨hil, ?_⟩
  have h1 : ∀ y ∈ l.take i, y ≠ x := by
    intro y hy
    obtain ⟨q, hq, rfl⟩ := List.getElem_of_mem hy
    rw [List.length_take] at hq
    have := hlo q (by omega)
    rw [zm _ (by omega)] at this
    rw [List.getElem_take]; omega
  have h2 : ∀ y ∈ l.drop (i + 1), y ≠ x := by
    intro y hy
    obtain ⟨q, hq, rfl⟩ := List.getElem_of_mem hy
    rw [List.length_drop] at hq
    have := XX ha (show i < i + 1 + q by omega) (by omega)
    rw [hx, zm _ (by omega)] at this
    rw [List.getElem_drop]; omega
  unfold xE
  conv => rhs; rw [← List.take_append_drop i l]
  rw [List.filter_append, List.filter_eq_self.2 (fun y hy => by simpa using h1 y hy), List.drop_eq_getElem_cons hil, List.filter_cons, if_neg (by rw [zm _ hil] at hx; simp [hx]), List.filter_eq_self.2 (fun y hy => by simpa using h2 y hy)]
theorem Xi (n : Int) : InR (IntKind.i64.wrap n) := Zw n
theorem ZY {G : Nat → Prop} {W w : World} {Rs : List HP} {fl : Fld} {dm vc : Value} {no arg : Int} {sh : List CelS} (hS0 : Sep G W ((RowE (α := CelS) own 42 vc sh) :: Rs) w) (hno : 0 ≤ no ∧ no < sh.length) : Ret Tryd.prog 79 [.agg #[.int .i64 (fl.kind), .int .i64 (fl.policy), .bool (fl.floor), dm, vc, .int .i64 (no), .int .i64 (arg)]] w (fun r w' => r = (.pointer (some ⟨sb vc, so vc + no.toNat * 2, none⟩) : Value) ∧ Sep G W ((RowE (α := CelS) own 42 vc sh) :: Rs) w') := by
 refine zr (args := [.agg #[Iv (fl.kind), Iv (fl.policy), .bool (fl.floor), dm, vc, Iv no, Iv arg]]) Tryd.func79 rfl rfl ?_
 have b := hS0.row (i := 0) rfl
 have hr1s : _ * 32 ≤ _ := b.2
 refine zd (za kr (fun _ => (st (zT (v := .agg #[Iv (fl.kind), Iv (fl.policy), .bool (fl.floor), dm, vc, Iv no, Iv arg]) rfl ?_))))
 intro w4 b3 c
 have a := hS0.new c
 refine st (ze (v := .pointer none) rfl (zf (zd (za kr (fun _ => (st (Wa rfl (st (zg (v := vc) Tryd.isAgg26 rfl (zh (a.blk (i := 0) rfl) rfl) (st (VS rfl (st (zg (v := Iv no) Tryd.isAgg3 rfl (zh (a.blk (i := 0) rfl) rfl) ?_)))))))))))))
 have hi6 : no.toNat < sh.length := bo
 refine st (zz (k := 2) (i := no) Tryd.underlying26 Tryd.sizeOf42 rfl b.1 rfl ⟨by omega, by omega⟩ (st (ze (v := Ix (sb vc) (so vc + no.toNat * 2)) rfl (zf (zt (zO Tryd.results79 (show _ = (Ix (sb vc) (so vc + no.toNat * 2) : Value) from rfl) ?_))))))
 have d := a.s2_b
 refine ⟨rfl, d⟩

set_option maxHeartbeats 4000000 in
theorem Kt {G : Nat → Prop} {W w : World} {Rs : List HP} {fl : Fld} {dm vc : Value} {no arg : Int} {l : List Cel} (hS0 : Sep G W ((CelW vc 42 3 l) :: Rs) w) (hno : 0 ≤ no ∧ no < l.length) (hno0 : InR no) (harg : InR arg) : Ret Tryd.prog 81 [.agg #[.int .i64 (fl.kind), .int .i64 (fl.policy), .bool (fl.floor), dm, vc, .int .i64 (no), .int .i64 (arg)]] w (fun r w' => r = (.tuple #[] : Value) ∧ Sep G W ((CelW vc 42 3 (l.set no.toNat (yD fl (yj l no) 2 arg))) :: Rs) w') := by
 refine zr (args := [.agg #[Iv (fl.kind), Iv (fl.policy), .bool (fl.floor), dm, vc, Iv no, Iv arg]]) Tryd.func81 rfl rfl ?_
 obtain ⟨a, d, F⟩ := CelW.open hS0
 have hsh2l := d.1
 have Y := F.row (i := 0) rfl
 have hr4s : _ * 32 ≤ _ := Y.2
 have J : Sep G W ((RowE (α := CelS) own 42 vc a) :: (Star (SetRows 3 a l)) :: Rs) w := F
 refine zd (za kr (fun _ => (st (zT (v := .agg #[Iv (fl.kind), Iv (fl.policy), .bool (fl.floor), dm, vc, Iv no, Iv arg]) rfl ?_))))
 intro w7 x Z
 have aa := J.new Z
 refine zf (WD4 ((fun TT g H => WF [fun vals h => Sep G W (g :: H :: TT) h, fun vals h => (vals 1 = (Ix (sb vc) (so vc + no.toNat * 2) : Value)) ∧ Sep G W (H :: g :: TT) h, fun vals h => (vals 1 = (Ix (sb vc) (so vc + no.toNat * 2) : Value)) ∧ Sep G W ((RowE (α := CelS) own 42 vc (a.set no.toNat (⟨arg, (a.getD no.toNat default).v⟩ : CelS))) :: g :: TT) h]) ((Star (SetRows 3 a l)) :: Rs) (Blk x #[Iv (fl.kind), Iv (fl.policy), .bool (fl.floor), dm, vc, Iv no, Iv arg] 101) (RowE (α := CelS) own 42 vc a)) (AF [Vl 0 (.agg #[Iv (fl.kind), Iv (fl.policy), .bool (fl.floor), dm, vc, Iv no, Iv arg]), fun _ => True, Vl 2 (Ix x 6), Vl 3 (Iv arg), Vl 4 (Ix (sb vc) (so vc + no.toNat * 2)), Vl 5 (Ix (sb vc) (so vc + no.toNat * 2)), fun _ => True]) [[], [0], [], [2], (rg 4), (rg 5), (rg 6)] [1, 6] [(0, 0), (0, 0), (0, 1), (0, 1), (1, 1), (1, 1), (1, 1)] aa ⟨?_, ?_, ?_, ?_, ?_, ?_, ?_, trivial⟩ ?_)
 exact ob1 0 fun _ _ (K : Sep _ _ _ _) _ => obl rfl (zl (k := 7) Tryd.isAgg101 Tryd.sizeOf101 rfl rfl (CellsAt.all (K.blk (i := 0) rfl)) dR)
 refine ob1 0 fun vals _ (L : Sep _ _ _ _) M => (obl rfl ?_)
 have N := L.mv1
 refine (zu (f := 79) (vals := [.agg #[Iv (fl.kind), Iv (fl.policy), .bool (fl.floor), dm, vc, Iv no, Iv arg]]) (cap := []) rfl (yP ⟨(M 0 dc), trivial⟩) Tryd.call79 (ZY  N bo) ?_)
 rintro _ w25 ⟨rfl, n⟩
 have O := n.row (i := 0) rfl
 have hr27s : _ * 32 ≤ _ := O.2
 exact fun y hv I => ⟨(And.intro hv n), trivial⟩
 exact fun _ _ _ _ _ _ _ => obl rfl (xl rfl dR)
 refine fun e _ _ ac ad p q => ?_
 have hkk : e = 0 ∨ e = 1 := by have h1 : 0 ≤ e := ac; have h2 : e ≤ 1 := ad; omega
 rcases hkk with rfl | rfl
 have P : Sep _ _ _ _ := p
 exact obl rfl (zg (v := Iv arg) Tryd.isAgg3 (q 2 dc) (zh (P.blk (i := 0) rfl) rfl) dR)
 obtain ⟨c, Q⟩ := p
 exact obl rfl (zg (v := Iv arg) Tryd.isAgg3 (q 2 dc) (zh (Q.blk (i := 1) rfl) rfl) dR)
 refine ob1 1 fun _ _ R _ => ?_
 obtain ⟨c, hS99⟩ := R
 exact obl rfl (zH (b := sb vc) (o := so vc + no.toNat * 2) c dR)
 exact fun _ _ _ _ _ _ z => obl rfl (yL (z 4 dc) dR)
 refine ob1 1 fun _ _ S s => ?_
 obtain ⟨c, T⟩ := S
 refine obl rfl ?_
 have U := T.emp1
 refine (yE (α := CelS) (j := no.toNat) (o := 0) (u := Iv arg) (us := [Iv arg]) (x1 := (⟨arg, (a.getD no.toNat default).v⟩ : CelS)) U Tryd.sizeOf3 bo (s 5 (by decide)) (s 3 (by decide)) rfl (Nat.le_of_ble_eq_true rfl) (ya ⟨rfl, trivial⟩) (fun _ _ _ hel _ => (by rw [← zm default (by omega)] at hel; obtain ⟨rfl, hok⟩ := hel; exact ⟨rfl, ⟨(show InR (arg) from (by omega)), hok.one⟩⟩)) ?_)
 intro w66 t
 have V := t.row (i := 0) rfl
 have hr69s : _ * 32 ≤ _ := V.2
 exact fun y hv I => ⟨(And.intro ((I 1 dc).trans c) t), trivial⟩
 intro vals X A hA109
 obtain ⟨c, B⟩ := A
 refine yf (kv := [(0, .agg #[Iv (fl.kind), Iv (fl.policy), .bool (fl.floor), dm, vc, Iv no, Iv arg]), (1, Ix x 0)]) ⟨rfl, rfl, trivial⟩ (fun ρw107 => (zf (Xw Tryd.results81 ?_)))
 have C := B.s3_acb
 have D : Sep G W ((CelW vc 42 3 (l.set no.toNat ⟨arg, (l.getD no.toNat default).set⟩)) :: (Blk x #[Iv (fl.kind), Iv (fl.policy), .bool (fl.floor), dm, vc, Iv no, Iv arg] 101) :: Rs) X := CelW.closeN (i := no.toNat) (m := arg) d.1 d.2 om C
 have E := D.s2_a
 refine ⟨rfl, E⟩

set_option maxHeartbeats 4000000 in
theorem Kf {G : Nat → Prop} {W w : World} {Rs : List HP} {fl : Fld} {dm vc : Value} {no arg : Int} {l : List Cel} (hS0 : Sep G W ((CelW vc 42 3 l) :: Rs) w) (hno : 0 ≤ no ∧ no < l.length) (hno0 : InR no) (harg : InR arg) : Ret Tryd.prog 78 [.agg #[.int .i64 (fl.kind), .int .i64 (fl.policy), .bool (fl.floor), dm, vc, .int .i64 (no), .int .i64 (arg)]] w (fun r w' => r = (.tuple #[] : Value) ∧ Sep G W ((CelW vc 42 3 (l.set no.toNat (yD fl (yj l no) 1 arg))) :: Rs) w') := by
 refine zr (args := [.agg #[Iv (fl.kind), Iv (fl.policy), .bool (fl.floor), dm, vc, Iv no, Iv arg]]) Tryd.func78 rfl rfl ?_
 obtain ⟨c, e, Z⟩ := CelW.open hS0
 have hsh2l := e.1
 have am := Z.row (i := 0) rfl
 have hr4s : _ * 32 ≤ _ := am.2
 have ac : Sep G W ((RowE (α := CelS) own 42 vc c) :: (Star (SetRows 3 c l)) :: Rs) w := Z
 refine zd (za kr (fun _ => (st (zT (v := .agg #[Iv (fl.kind), Iv (fl.policy), .bool (fl.floor), dm, vc, Iv no, Iv arg]) rfl ?_))))
 intro w7 E an
 have ao := ac.new an
 refine zf ?_
 refine WD4 ((fun TT A aa => WF [fun vals B => Sep G W (A :: aa :: TT) B, fun vals B => (vals 1 = (Ix (sb vc) (so vc + no.toNat * 2) : Value)) ∧ Sep G W (aa :: A :: TT) B, fun vals B => (vals 1 = (Ix (sb vc) (so vc + no.toNat * 2) : Value)) ∧ Sep G W ((RowE (α := CelS) own 42 vc (c.set no.toNat (⟨IntKind.i64.wrap (((c.getD no.toNat default).n) + arg), (c.getD no.toNat default).v⟩ : CelS))) :: A :: TT) B]) ((Star (SetRows 3 c l)) :: Rs) (Blk E #[Iv (fl.kind), Iv (fl.policy), .bool (fl.floor), dm, vc, Iv no, Iv arg] 101) (RowE (α := CelS) own 42 vc c)) (AF [Vl 0 (.agg #[Iv (fl.kind), Iv (fl.policy), .bool (fl.floor), dm, vc, Iv no, Iv arg]), fun _ => True, Vl 2 (Ix (sb vc) (so vc + no.toNat * 2)), Vl 3 (Ix (sb vc) (so vc + no.toNat * 2)), Vl 4 (Iv ((c.getD no.toNat default).n)), Vl 5 (Ix E 6), Vl 6 (Iv arg), Vl 7 (Iv (IntKind.i64.wrap (((c.getD no.toNat default).n) + arg))), Vl 8 (Ix (sb vc) (so vc + no.toNat * 2)), Vl 9 (Ix (sb vc) (so vc + no.toNat * 2)), fun _ => True]) [[], [0], [0, 1], [0, 1, 2], (rg 4), [], [5], (rg 7), (rg 8), (rg 9), (rg 10)] [1, 10] [(0, 0), (0, 0), (1, 1), (1, 1), (1, 1), (0, 1), (0, 1), (1, 1), (1, 1), (1, 1), (1, 1)] ao ⟨?_, ?_, ?_, ?_, ?_, ?_, ?_, ?_, ?_, ?_, ?_, trivial⟩ ?_
 exact ob1 0 fun _ _ (F : Sep _ _ _ _) _ => obl rfl (zl (k := 7) Tryd.isAgg101 Tryd.sizeOf101 rfl rfl (CellsAt.all (F.blk (i := 0) rfl)) dR)
 refine ob1 0 fun vals _ (ad : Sep _ _ _ _) ae => (obl rfl ?_)
 have af := ad.mv1
 refine (zu (f := 79) (vals := [.agg #[Iv (fl.kind), Iv (fl.policy), .bool (fl.floor), dm, vc, Iv no, Iv arg]]) (cap := []) rfl (yP ⟨(ae 0 dc), trivial⟩) Tryd.call79 (ZY  af bo) ?_)
 rintro _ w25 ⟨rfl, C⟩
 have ag := C.row (i := 0) rfl
 have hr27s : _ * 32 ≤ _ := ag.2
 exact fun H hv ab => ⟨(And.intro hv C), trivial⟩
 refine ob1 1 fun _ _ I _ => ?_
 obtain ⟨d, hS116⟩ := I
 exact obl rfl (zH (b := sb vc) (o := so vc + no.toNat * 2) d dR)
 exact fun _ _ _ _ _ _ J => obl rfl (yL (J 2 dc) dR)
 refine ob1 1 fun _ _ K L => ?_
 obtain ⟨d, M⟩ := K
 refine obl rfl ?_
 have p : no.toNat < c.length := bo
 obtain ⟨_, _, h, rfl, z⟩ := M.rowAt (i := 0) (j := no.toNat) rfl p
 rw [← zm default p] at h z
 exact zg (v := Iv ((c.getD no.toNat default).n)) Tryd.isAgg3 (L 3 dc) (h.get (j := 0) rfl) dR
 exact fun _ _ _ _ _ _ _ => obl rfl (xl rfl dR)
 refine fun g _ _ ah ai q s => ?_
 have hkk : g = 0 ∨ g = 1 := by have h1 : 0 ≤ g := ah; have h2 : g ≤ 1 := ai; omega
 rcases hkk with rfl | rfl
 have N : Sep _ _ _ _ := q
 exact obl rfl (zg (v := Iv arg) Tryd.isAgg3 (s 5 dc) (zh (N.blk (i := 0) rfl) rfl) dR)
 obtain ⟨d, O⟩ := q
 exact obl rfl (zg (v := Iv arg) Tryd.isAgg3 (s 5 dc) (zh (O.blk (i := 1) rfl) rfl) dR)
 refine ob1 1 fun _ _ P t => ?_
 obtain ⟨d, hS156⟩ := P
 exact obl rfl (zV (r := IntKind.i64.wrap (((c.getD no.toNat default).n) + arg)) (k := .i64) (a := (c.getD no.toNat default).n) (b := arg) (t 4 dc) (t 6 dc) rfl dR)
 refine ob1 1 fun _ _ Q _ => ?_
 obtain ⟨d, hS165⟩ := Q
 exact obl rfl (zH (b := sb vc) (o := so vc + no.toNat * 2) d dR)
 exact fun _ _ _ _ _ _ R => obl rfl (yL (R 8 dc) dR)
 refine ob1 1 fun _ _ aj D => ?_
 obtain ⟨d, ak⟩ := aj
 refine obl rfl ?_
 have S := ak.emp1
 refine (yE (α := CelS) (j := no.toNat) (o := 0) (u := Iv (IntKind.i64.wrap (((c.getD no.toNat default).n) + arg))) (us := [Iv (IntKind.i64.wrap (((c.getD no.toNat default).n) + arg))]) (x1 := (⟨IntKind.i64.wrap (((c.getD no.toNat default).n) + arg), (c.getD no.toNat default).v⟩ : CelS)) S Tryd.sizeOf3 bo (D 9 (by decide)) (D 7 (by decide)) rfl (Nat.le_of_ble_eq_true rfl) (ya ⟨rfl, trivial⟩) (fun _ _ _ hel _ => (by rw [← zm default (by omega)] at hel; obtain ⟨rfl, hok⟩ := hel; exact ⟨rfl, ⟨(show InR (IntKind.i64.wrap (((c.getD no.toNat default).n) + arg)) from (Xi _)), hok.one⟩⟩)) ?_)
 intro w99 x
 have T := x.row (i := 0) rfl
 have hr102s : _ * 32 ≤ _ := T.2
 exact fun H hv ab => ⟨(And.intro ((ab 1 dc).trans d) x), trivial⟩
 intro vals al U hA175
 obtain ⟨d, V⟩ := U
 refine yf (kv := [(0, .agg #[Iv (fl.kind), Iv (fl.policy), .bool (fl.floor), dm, vc, Iv no, Iv arg]), (1, Ix E 0)]) ⟨rfl, rfl, trivial⟩ (fun ρw173 => (zf (Xw Tryd.results78 ?_)))
 have X := V.s3_acb
 have y : Sep G W ((CelW vc 42 3 (l.set no.toNat ⟨IntKind.i64.wrap (((c.getD no.toNat default).n) + arg), (l.getD no.toNat default).set⟩)) :: (Blk E #[Iv (fl.kind), Iv (fl.policy), .bool (fl.floor), dm, vc, Iv no, Iv arg] 101) :: Rs) al := CelW.closeN (i := no.toNat) (m := IntKind.i64.wrap (((c.getD no.toNat default).n) + arg)) e.1 e.2 om X
 rw [e.2 _ (by omega)] at y
 have Y := y.s2_a
 refine ⟨rfl, Y⟩

theorem XY {d : Option Tmp} {ty : TypeId} {pos : String} {af : Array Edge} {g : Option (Nat × Bool)} {σ : Env} {w : World} {K : Value → World → Prop} {x : Operand} {b o : Nat} (hx : ev σ x = .pointer (some ⟨b, o, none⟩)) (h : K (.pointer (some ⟨b, o + 1, none⟩)) w) : opV Tryd.prog ⟨d, .fieldAddr 115 x 1, ty, pos, af, g⟩ σ w K := zA Tryd.underlying115 rfl rfl (fun w => ⟨0, Tryd.sizeOf3 w⟩) hx h
set_option maxHeartbeats 4000000 in
theorem Qv {G : Nat → Prop} {W w : World} {Rs : List HP} {fl : Fld} {dm vc : Value} {no arg : Int} {l : List Cel} (hS0 : Sep G W ((CelW vc 42 3 l) :: Rs) w) (hno : 0 ≤ no ∧ no < l.length) (hno0 : InR no) (harg : InR arg) (hdm : RdS W G dm fl.moves) (hmv : 0 ≤ arg ∧ arg < fl.moves.length) : Ret Tryd.prog 86 [.agg #[.int .i64 (fl.kind), .int .i64 (fl.policy), .bool (fl.floor), dm, vc, .int .i64 (no), .int .i64 (arg)]] w (fun r w' => r = (.tuple #[] : Value) ∧ Sep G W ((CelW vc 42 3 (l.set no.toNat (yD fl (yj l no) 5 arg))) :: Rs) w') := by
 refine zr (args := [.agg #[Iv (fl.kind), Iv (fl.policy), .bool (fl.floor), dm, vc, Iv no, Iv arg]]) Tryd.func86 rfl rfl ?_
 obtain ⟨d, A, ap⟩ := CelW.open hS0
 have hsh2l := A.1
 have aK := ap.row (i := 0) rfl
 have hr4s : _ * 32 ≤ _ := aK.2
 have au : Sep G W ((RowE (α := CelS) own 42 vc d) :: (Star (SetRows 3 d l)) :: Rs) w := ap
 refine zd (za kr (fun _ => (st (zT (v := .agg #[Iv (fl.kind), Iv (fl.policy), .bool (fl.floor), dm, vc, Iv no, Iv arg]) rfl ?_))))
 intro w7 M aL
 have aM := au.new aL
 refine zf ?_
 refine WD4 ((fun TT P aq => WF [fun vals Q => Sep G W (P :: aq :: TT) Q, fun vals Q => (vals 1 = (Ix (sb vc) (so vc + no.toNat * 2) : Value)) ∧ Sep G W (aq :: P :: TT) Q, fun vals Q => (vals 1 = (Ix (sb vc) (so vc + no.toNat * 2) : Value)) ∧ Sep G W ((RowE (α := CelS) own 42 vc (d.set no.toNat (⟨(fl.moves.getD arg.toNat default).to, (d.getD no.toNat default).v⟩ : CelS))) :: P :: TT) Q]) ((Star (SetRows 3 d l)) :: Rs) (Blk M #[Iv (fl.kind), Iv (fl.policy), .bool (fl.floor), dm, vc, Iv no, Iv arg] 101) (RowE (α := CelS) own 42 vc d)) (AF [Vl 0 (.agg #[Iv (fl.kind), Iv (fl.policy), .bool (fl.floor), dm, vc, Iv no, Iv arg]), fun _ => True, Vl 2 (Ix M 0), Vl 3 (Ix M 3), Vl 4 (dm), Vl 5 (Ix M 6), Vl 6 (Iv arg), Vl 7 (Ix (sb dm) (so dm + arg.toNat * 4)), Vl 8 (Ix (sb dm) (so dm + arg.toNat * 4 + 1)), Vl 9 (Iv ((fl.moves.getD arg.toNat default).to)), Vl 10 (Ix (sb vc) (so vc + no.toNat * 2)), Vl 11 (Ix (sb vc) (so vc + no.toNat * 2)), fun _ => True]) [[], [0], [], [2], [2, 3], [], [5], [2, 3, 4, 5, 6], [2, 3, 4, 5, 6, 7], [2, 3, 4, 5, 6, 7, 8], (rg 10), (rg 11), (rg 12)] [1, 12] [(0, 0), (0, 0), (0, 1), (0, 1), (0, 1), (0, 1), (0, 1), (0, 1), (0, 1), (0, 1), (1, 1), (1, 1), (1, 1)] aM ⟨?_, ?_, ?_, ?_, ?_, ?_, ?_, ?_, ?_, ?_, ?_, ?_, ?_, trivial⟩ ?_
 exact ob1 0 fun _ _ (U : Sep _ _ _ _) _ => obl rfl (zl (k := 7) Tryd.isAgg101 Tryd.sizeOf101 rfl rfl (CellsAt.all (U.blk (i := 0) rfl)) dR)
 refine ob1 0 fun vals _ (av : Sep _ _ _ _) aw => (obl rfl ?_)
 have ax := av.mv1
 refine (zu (f := 79) (vals := [.agg #[Iv (fl.kind), Iv (fl.policy), .bool (fl.floor), dm, vc, Iv no, Iv arg]]) (cap := []) rfl (yP ⟨(aw 0 dc), trivial⟩) Tryd.call79 (ZY  ax bo) ?_)
 rintro _ w25 ⟨rfl, R⟩
 have ay := R.row (i := 0) rfl
 have hr27s : _ * 32 ≤ _ := ay.2
 exact fun V hv ar => ⟨(And.intro hv R), trivial⟩
 exact fun _ _ _ _ _ _ _ => obl rfl (YE rfl dR)
 exact fun _ _ _ _ _ _ X => obl rfl (yz (X 2 dc) dR)
 refine fun g _ _ az aA B C => ?_
 have hkk : g = 0 ∨ g = 1 := by have h1 : 0 ≤ g := az; have h2 : g ≤ 1 := aA; omega
 rcases hkk with rfl | rfl
 have Y : Sep _ _ _ _ := B
 exact obl rfl (zg (v := dm) Tryd.isAgg77 (C 3 dc) (zh (Y.blk (i := 0) rfl) rfl) dR)
 obtain ⟨a, Z⟩ := B
 exact obl rfl (zg (v := dm) Tryd.isAgg77 (C 3 dc) (zh (Z.blk (i := 1) rfl) rfl) dR)
 exact fun _ _ _ _ _ _ _ => obl rfl (xl rfl dR)
 refine fun h _ _ aD aE D E => ?_
 have hkk : h = 0 ∨ h = 1 := by have h1 : 0 ≤ h := aD; have h2 : h ≤ 1 := aE; omega
 rcases hkk with rfl | rfl
 have aa : Sep _ _ _ _ := D
 exact obl rfl (zg (v := Iv arg) Tryd.isAgg3 (E 5 dc) (zh (aa.blk (i := 0) rfl) rfl) dR)
 obtain ⟨a, ab⟩ := D
 exact obl rfl (zg (v := Iv arg) Tryd.isAgg3 (E 5 dc) (zh (ab.blk (i := 1) rfl) rfl) dR)
 refine fun n _ _ aF aG F c => ?_
 have hkk : n = 0 ∨ n = 1 := by have h1 : 0 ≤ n := aF; have h2 : n ≤ 1 := aG; omega
 rcases hkk with rfl | rfl
 have hS174 : Sep _ _ _ _ := F
 refine obl rfl ?_
 have hi177 : arg.toNat < fl.moves.length := bo
 exact zz (k := 4) (i := arg) Tryd.underlying77 Tryd.sizeOf115 (c 4 dc) hdm.sl (c 6 dc) ⟨by omega, by omega⟩ dR
 obtain ⟨a, hS178⟩ := F
 refine obl rfl ?_
 have hi181 : arg.toNat < fl.moves.length := bo
 exact zz (k := 4) (i := arg) Tryd.underlying77 Tryd.sizeOf115 (c 4 dc) hdm.sl (c 6 dc) ⟨by omega, by omega⟩ dR
 exact fun _ _ _ _ _ _ ac => obl rfl (XY (ac 7 dc) dR)
 refine fun p _ _ aH aI H I => ?_
 have hkk : p = 0 ∨ p = 1 := by have h1 : 0 ≤ p := aH; have h2 : p ≤ 1 := aI; omega
 rcases hkk with rfl | rfl
 have ad : Sep _ _ _ _ := H
 refine obl rfl ?_
 have q : arg.toNat < fl.moves.length := bo
 obtain ⟨x, N⟩ := hdm.mv q
 rw [← zm default q] at x N
 have S := ad.cells x (hdm.foot (ne_of_lt q))
 exact zg (v := Iv ((fl.moves.getD arg.toNat default).to)) Tryd.isAgg3 (I 8 dc) (S.get (j := 1) rfl) dR
 obtain ⟨a, ae⟩ := H
 refine obl rfl ?_
 have s : arg.toNat < fl.moves.length := bo
 obtain ⟨y, O⟩ := hdm.mv s
 rw [← zm default s] at y O
 have T := ae.cells y (hdm.foot (ne_of_lt s))
 exact zg (v := Iv ((fl.moves.getD arg.toNat default).to)) Tryd.isAgg3 (I 8 dc) (T.get (j := 1) rfl) dR
 refine ob1 1 fun _ _ af _ => ?_
 obtain ⟨a, hS211⟩ := af
 exact obl rfl (zH (b := sb vc) (o := so vc + no.toNat * 2) a dR)
 exact fun _ _ _ _ _ _ ag => obl rfl (yL (ag 10 dc) dR)
 refine ob1 1 fun _ _ ah J => ?_
 obtain ⟨a, K⟩ := ah
 refine obl rfl ?_
 have t : arg.toNat < fl.moves.length := bo
 obtain ⟨z, e⟩ := hdm.mv t
 rw [← zm default t] at z e
 have hcw118 := K.cells z (hdm.foot (ne_of_lt t))
 have ai := K.emp1
 refine (yE (α := CelS) (j := no.toNat) (o := 0) (u := Iv ((fl.moves.getD arg.toNat default).to)) (us := [Iv ((fl.moves.getD arg.toNat default).to)]) (x1 := (⟨(fl.moves.getD arg.toNat default).to, (d.getD no.toNat default).v⟩ : CelS)) ai Tryd.sizeOf3 bo (J 11 (by decide)) (J 9 (by decide)) rfl (Nat.le_of_ble_eq_true rfl) (ya ⟨rfl, trivial⟩) (fun _ _ _ hel _ => (by rw [← zm default (by omega)] at hel; obtain ⟨rfl, hok⟩ := hel; exact ⟨rfl, ⟨(show InR ((fl.moves.getD arg.toNat default).to) from e.to), hok.one⟩⟩)) ?_)
 intro w115 L
 have aj := L.row (i := 0) rfl
 have hr121s : _ * 32 ≤ _ := aj.2
 exact fun V hv ar => ⟨(And.intro ((ar 1 dc).trans a) L), trivial⟩
 intro vals aJ ak hA221
 obtain ⟨a, al⟩ := ak
 refine yf (kv := [(0, .agg #[Iv (fl.kind), Iv (fl.policy), .bool (fl.floor), dm, vc, Iv no, Iv arg]), (1, Ix M 0)]) ⟨rfl, rfl, trivial⟩ (fun ρw219 => (zf (Xw Tryd.results86 ?_)))
 have am := al.s3_acb
 have an : Sep G W ((CelW vc 42 3 (l.set no.toNat ⟨(fl.moves.getD arg.toNat default).to, (l.getD no.toNat default).set⟩)) :: (Blk M #[Iv (fl.kind), Iv (fl.policy), .bool (fl.floor), dm, vc, Iv no, Iv arg] 101) :: Rs) aJ := CelW.closeN (i := no.toNat) (m := (fl.moves.getD arg.toNat default).to) A.1 A.2 om am
 have ao := an.s2_a
 refine ⟨rfl, ao⟩

theorem UV {l : List Int} {x : Int} (h : ¬ x ∈ l) : xE l x = l := by
  unfold xE
  exact List.filter_eq_self.2 (fun y hy => by simp only [decide_eq_true_eq]; intro e; exact h (e ▸ hy))
theorem Vt {fl : Fld} {c : Cel} {arg : Int} (h : arg ∈ c.set) : yD fl c 3 arg = c := by
  unfold yD; rw [if_neg (by decide), if_neg (by decide), if_pos rfl, Yu h]
theorem Vn {fl : Fld} {c : Cel} {arg : Int} (h : ¬ arg ∈ c.set) : yD fl c 4 arg = c := by
  unfold yD; rw [if_neg (by decide), if_neg (by decide), if_neg (by decide), if_pos rfl, UV h]
theorem UY {fl : Fld} {c : Cel} {arg : Int} : yD fl c 3 arg = ⟨c.n, Zd c.set arg⟩ := rfl
theorem Qt {fl : Fld} {c : Cel} {arg : Int} : yD fl c 4 arg = ⟨c.n, xE c.set arg⟩ := rfl
set_option maxHeartbeats 4000000 in
theorem QS {G : Nat → Prop} {W w : World} {Rs : List HP} {fl : Fld} {dm vc : Value} {no arg : Int} {l : List Cel} (hS0 : Sep G W ((CelW vc 42 3 l) :: Rs) w) (hno : 0 ≤ no ∧ no < l.length) (hno0 : InR no) (harg : InR arg) (hasc : Asc (yj l no).set) (hfew : (yj l no).set.length ≤ 1000) : Ret Tryd.prog 83 [.agg #[.int .i64 (fl.kind), .int .i64 (fl.policy), .bool (fl.floor), dm, vc, .int .i64 (no), .int .i64 (arg)]] w (fun r w' => r = (.tuple #[] : Value) ∧ Sep G W ((CelW vc 42 3 (l.set no.toNat (yD fl (yj l no) 3 arg))) :: Rs) w') := by
 refine zr (args := [.agg #[Iv (fl.kind), Iv (fl.policy), .bool (fl.floor), dm, vc, Iv no, Iv arg]]) Tryd.func83 rfl rfl ?_
 obtain ⟨e, E, bj⟩ := CelW.open hS0
 have hsh2l := E.1
 have bE := bj.row (i := 0) rfl
 have hr4s : _ * 32 ≤ _ := bE.2
 have bl : Sep G W ((RowE (α := CelS) own 42 vc e) :: (Star (SetRows 3 e l)) :: Rs) w := bj
 refine zd (za kr (fun _ => (st (zT (v := .agg #[Iv (fl.kind), Iv (fl.policy), .bool (fl.floor), dm, vc, Iv no, Iv arg]) rfl ?_))))
 intro w7 H bF
 have bk := bl.new bF
 refine zf (zd (za kr (fun _ => (st (zl (k := 7) Tryd.isAgg101 Tryd.sizeOf101 rfl rfl (CellsAt.all (bk.blk (i := 0) rfl)) ?_)))))
 have bG := bk.mv1
 refine st (zu (f := 79) (vals := [.agg #[Iv (fl.kind), Iv (fl.policy), .bool (fl.floor), dm, vc, Iv no, Iv arg]]) (cap := []) rfl rfl Tryd.call79 (ZY  bG bo) ?_)
 rintro _ bH ⟨rfl, ai⟩
 have bm := ai.row (i := 0) rfl
 have hr12s : _ * 32 ≤ _ := bm.2
 have bn := ai.mv2
 have aj : Sep G W ((RowE (α := Int) own 3 ((e.getD no.toNat default).v) ((l.getD no.toNat default).set)) :: (Star ((SetRows 3 e l).set no.toNat Emp)) :: (RowE (α := CelS) own 42 vc e) :: (Blk H #[Iv (fl.kind), Iv (fl.policy), .bool (fl.floor), dm, vc, Iv no, Iv arg] 101) :: Rs) bH := Sep.takeStar bn (SetRows.get (i := no.toNat) om om)
 have bp := aj.row (i := 0) rfl
 have hr15s : _ * 8 ≤ _ := bp.2
 refine st (ze (v := Ix (sb vc) (so vc + no.toNat * 2)) rfl (zf (zd ?_)))
 refine WD4 ((fun TT L => WF [fun vals I => Sep G W (L :: TT) I, fun vals I => ∃ (d : Nat), (vals 6 = (.tuple #[Iw d, .bool (decide (arg ∈ ((l.getD no.toNat default).set)))] : Value)) ∧ (d ≤ ((l.getD no.toNat default).set).length ∧ (∀ q, q < d → ((l.getD no.toNat default).set).getD q 0 < arg) ∧ (∀ q, d ≤ q → q < ((l.getD no.toNat default).set).length → arg ≤ ((l.getD no.toNat default).set).getD q 0)) ∧ Sep G W (L :: TT) I]) ((Star ((SetRows 3 e l).set no.toNat Emp)) :: (RowE (α := CelS) own 42 vc e) :: (Blk H #[Iv (fl.kind), Iv (fl.policy), .bool (fl.floor), dm, vc, Iv no, Iv arg] 101) :: Rs) (RowE (α := Int) own 3 ((e.getD no.toNat default).v) ((l.getD no.toNat default).set))) (AF [Vl 0 (Ix (sb vc) (so vc + no.toNat * 2)), Vl 1 (Ix (sb vc) (so vc + no.toNat * 2)), Vl 2 (Ix (sb vc) (so vc + no.toNat * 2 + 1)), Vl 3 ((e.getD no.toNat default).v), Vl 4 (Ix H 6), Vl 5 (Iv arg), fun _ => True, fun vals => ∀ (d : Nat), vals 6 = (.tuple #[Iw d, .bool (decide (arg ∈ ((l.getD no.toNat default).set)))] : Value) → vals 7 = (.tuple #[Iw d, .bool (decide (arg ∈ ((l.getD no.toNat default).set)))] : Value), fun vals => ∀ (d : Nat), vals 6 = (.tuple #[Iw d, .bool (decide (arg ∈ ((l.getD no.toNat default).set)))] : Value) → vals 8 = (Iw d : Value), Vl 9 (.bool (decide (arg ∈ ((l.getD no.toNat default).set)))), fun vals => ∀ (d : Nat), vals 6 = (.tuple #[Iw d, .bool (decide (arg ∈ ((l.getD no.toNat default).set)))] : Value) → vals 10 = (Iw d : Value), Vl 11 (.bool (decide (arg ∈ ((l.getD no.toNat default).set))))]) [[], [0], [0, 1], [0, 1, 2], [], [4], (rg 6), (rg 7), (rg 8), (rg 8), (rg 9), (rg 11)] [6] [(0, 0), (0, 0), (0, 0), (0, 0), (0, 0), (0, 0), (0, 0), (1, 1), (1, 1), (1, 1), (1, 1), (1, 1)] aj ⟨?_, ?_, ?_, ?_, ?_, ?_, ?_, ?_, ?_, ?_, ?_, ?_, trivial⟩ ?_ (hlocA := yZ ⟨dA, dA, dA, dA, dA, dA, dT, fun vals y A h => fun d z => (A 7 (.inl rfl)).trans (h d ((A 6 (.inr dc)).symm.trans z)), fun vals y A h => fun d z => (A 8 (.inl rfl)).trans (h d ((A 6 (.inr dc)).symm.trans z)), dA, fun vals y A h => fun d z => (A 10 (.inl rfl)).trans (h d ((A 6 (.inr dc)).symm.trans z)), dA, trivial⟩)
 exact fun _ _ _ _ _ _ _ => obl rfl (zb (v := Ix (sb vc) (so vc + no.toNat * 2)) rfl dR)
 exact fun _ _ _ _ _ _ ao => obl rfl (zH (b := sb vc) (o := so vc + no.toNat * 2) (ao 0 dc) dR)
 exact fun _ _ _ _ _ _ ap => obl rfl (yN (ap 1 dc) dR)
 refine ob1 0 fun _ _ (aq : Sep _ _ _ _) ar => (obl rfl ?_)
 have P : no.toNat < e.length := bo
 obtain ⟨_, _, M, rfl, af⟩ := aq.rowAt (i := 2) (j := no.toNat) rfl P
 rw [← zm default P] at M af
 exact zg (v := (e.getD no.toNat default).v) Tryd.isAgg40 (ar 2 dc) (M.get (j := 1) rfl) dR
 exact fun _ _ _ _ _ _ _ => obl rfl (xl rfl dR)
 exact ob1 0 fun _ _ (au : Sep _ _ _ _) av => obl rfl (zg (v := Iv arg) Tryd.isAgg3 (av 4 dc) (zh (au.blk (i := 3) rfl) rfl) dR)
 refine ob1 0 fun vals _ (bq : Sep _ _ _ _) ak => (obl rfl ?_)
 obtain ⟨G69, br, hB72, bs, bt⟩ := bq.lend
 have Q := RowE.rd br
 have hrd75s : _ * 8 ≤ _ := Q.small
 refine (zu (f := 94) (vals := [(e.getD no.toNat default).v, Iv arg]) (cap := []) rfl (yP ⟨(ak 3 dc), (ak 5 dc), trivial⟩) Tryd.call94 (Ym (l := (l.getD no.toNat default).set) (vl := (e.getD no.toNat default).v) (x := arg) Q om bs (hasc)) ?_)
 rintro _ w78 ⟨d, rfl, p, bu⟩
 have bv := bt _ _ bu
 exact fun y A B => ⟨(Exists.intro d (And.intro A (And.intro p bv))), trivial⟩
 refine ob1 1 fun _ _ aw _ => ?_
 obtain ⟨d, t, p, hS171⟩ := aw
 refine obl rfl (zb (v := .tuple #[Iw d, .bool (decide (arg ∈ ((l.getD no.toNat default).set)))]) t (fun y A B => ⟨rfl, ?_⟩))
 intro R z
 rw [B 6 (by decide)] at z; cases t.symm.trans z
 exact A
 refine ob1 1 fun vals _ ax ay => ?_
 obtain ⟨d, t, p, hS178⟩ := ax
 have bw : vals 7 = (.tuple #[Iw d, .bool (decide (arg ∈ ((l.getD no.toNat default).set)))] : Value) := ay 7 dc d t
 refine obl rfl (zE (vs := [Iw d, .bool (decide (arg ∈ ((l.getD no.toNat default).set)))]) (i := 0) (v := Iw d) bw rfl (fun y A B => ⟨rfl, ?_⟩))
 intro R z
 rw [B 6 (by decide)] at z; cases t.symm.trans z
 exact A
 refine ob1 1 fun vals _ az aA => ?_
 obtain ⟨d, t, p, hS186⟩ := az
 have bx : vals 7 = (.tuple #[Iw d, .bool (decide (arg ∈ ((l.getD no.toNat default).set)))] : Value) := aA 7 dc d t
 exact obl rfl (zE (vs := [Iw d, .bool (decide (arg ∈ ((l.getD no.toNat default).set)))]) (i := 1) (v := .bool (decide (arg ∈ ((l.getD no.toNat default).set)))) bx rfl dR)
 refine ob1 1 fun vals _ aB aC => ?_
 obtain ⟨d, t, p, hS194⟩ := aB
 have bz : vals 8 = (Iw d : Value) := aC 8 dc d t
 refine obl rfl (ze (v := Iw d) bz (fun y A B => ⟨rfl, ?_⟩))
 intro R z
 rw [B 6 (by decide)] at z; cases t.symm.trans z
 exact A
 refine ob1 1 fun _ _ aD aE => ?_
 obtain ⟨d, t, p, hS202⟩ := aD
 exact obl rfl (ze (v := .bool (decide (arg ∈ ((l.getD no.toNat default).set)))) (aE 9 dc) dR)
 intro vals al aF S
 obtain ⟨d, t, p, T⟩ := aF
 have bA : vals 10 = (Iw d : Value) := S 10 dc d t
 have bB := S 11 dc
 refine yf (kv := [(0, .agg #[Iv (fl.kind), Iv (fl.policy), .bool (fl.floor), dm, vc, Iv no, Iv arg]), (1, Ix H 0), (5, .agg #[Iv (fl.kind), Iv (fl.policy), .bool (fl.floor), dm, vc, Iv no, Iv arg]), (6, Ix (sb vc) (so vc + no.toNat * 2)), (2, Ix (sb vc) (so vc + no.toNat * 2)), (3, Iw d), (4, .bool (decide (arg ∈ ((l.getD no.toNat default).set))))]) ⟨rfl, rfl, rfl, rfl, rfl, (by exact bA), (by exact bB), trivial⟩ (fun ρw204 => (zf (zd (za kr (fun _ => (st (zb (v := .bool (decide (arg ∈ ((l.getD no.toNat default).set)))) rfl (st (yt (a := decide (arg ∈ ((l.getD no.toNat default).set))) rfl (zf ?_))))))))))
 cases C : !(decide (arg ∈ ((l.getD no.toNat default).set)))
 have C := zC C
 refine zn rfl (zv (Xw Tryd.results83 ?_))
 have aG : Sep G W ((CelW vc 42 3 l) :: (Blk H #[Iv (fl.kind), Iv (fl.policy), .bool (fl.floor), dm, vc, Iv no, Iv arg] 101) :: Rs) al := CelW.close0 (i := no.toNat) E.1 E.2 om T
 have aH : Sep G W ((CelW vc 42 3 (l.set no.toNat (yD fl (yj l no) 3 arg))) :: (Blk H #[Iv (fl.kind), Iv (fl.policy), .bool (fl.floor), dm, vc, Iv no, Iv arg] 101) :: Rs) al := by
  rw [Vt (show arg ∈ (yj l no).set from C), show l.set no.toNat (yj l no) = l from xK default (by omega)]
  exact aG
 have aI := aH.s2_a
 refine ⟨rfl, aI⟩
 have C := zR C
 refine zo rfl ?_
 refine WD4 ((fun TT L U am => WF [fun vals I => Sep G W (L :: U :: am :: TT) I, fun vals I => ∃ (g : Nat), (vals 8 = ((Iy g 1 1) : Value)) ∧ Sep G W ((Blk g #[Iv arg] 3) :: L :: U :: am :: TT) I, fun vals I => ∃ (g : Nat) (m : Value), (vals 8 = ((Iy g 1 1) : Value)) ∧ (vals 9 = (m : Value)) ∧ Sep G W ((RowE (α := Int) own 3 m (((l.getD no.toNat default).set).take d ++ arg :: ((l.getD no.toNat default).set).drop d)) :: U :: am :: TT) I, fun vals I => ∃ (g : Nat) (m : Value), (vals 8 = ((Iy g 1 1) : Value)) ∧ (vals 9 = (m : Value)) ∧ Sep G W ((RowE (α := CelS) own 42 vc (e.set no.toNat (⟨(e.getD no.toNat default).n, m⟩ : CelS))) :: (RowE (α := Int) own 3 m (((l.getD no.toNat default).set).take d ++ arg :: ((l.getD no.toNat default).set).drop d)) :: U :: TT) I]) ((Blk H #[Iv (fl.kind), Iv (fl.policy), .bool (fl.floor), dm, vc, Iv no, Iv arg] 101) :: Rs) (RowE (α := Int) own 3 ((e.getD no.toNat default).v) ((l.getD no.toNat default).set)) (Star ((SetRows 3 e l).set no.toNat Emp)) (RowE (α := CelS) own 42 vc e)) (AF [Vl 0 (Ix (sb vc) (so vc + no.toNat * 2)), Vl 1 (Ix (sb vc) (so vc + no.toNat * 2)), Vl 2 (Ix (sb vc) (so vc + no.toNat * 2)), Vl 3 (Ix (sb vc) (so vc + no.toNat * 2 + 1)), Vl 4 ((e.getD no.toNat default).v), Vl 5 (Iw d), Vl 6 (Ix H 6), Vl 7 (Iv arg), fun _ => True, fun _ => True, Vl 10 (Ix (sb vc) (so vc + no.toNat * 2)), Vl 11 (Ix (sb vc) (so vc + no.toNat * 2 + 1)), fun _ => True]) [[], [], [1], [1, 2], [1, 2, 3], [], [], [6], [6, 7], [1, 2, 3, 4, 5, 6, 7, 8], (rg 10), (rg 11), (rg 12)] [8, 9, 12] [(0, 2), (0, 1), (0, 1), (0, 1), (0, 1), (0, 1), (0, 0), (0, 0), (0, 0), (1, 1), (2, 2), (2, 2), (2, 2)] T ⟨?_, ?_, ?_, ?_, ?_, ?_, ?_, ?_, ?_, ?_, ?_, ?_, ?_, trivial⟩ ?_
 exact fun _ _ _ _ _ _ _ => obl rfl (zb (v := Ix (sb vc) (so vc + no.toNat * 2)) rfl dR)
 exact fun _ _ _ _ _ _ _ => obl rfl (zb (v := Ix (sb vc) (so vc + no.toNat * 2)) rfl dR)
 exact fun _ _ _ _ _ _ aJ => obl rfl (zH (b := sb vc) (o := so vc + no.toNat * 2) (aJ 1 dc) dR)
 exact fun _ _ _ _ _ _ aK => obl rfl (yN (aK 2 dc) dR)
 refine fun J _ _ bC bD V X => ?_
 have hkk : J = 0 ∨ J = 1 := by have h1 : 0 ≤ J := bC; have h2 : J ≤ 1 := bD; omega
 rcases hkk with rfl | rfl
 have aL : Sep _ _ _ _ := V
 refine obl rfl ?_
 have Y : no.toNat < e.length := bo
 obtain ⟨_, _, N, rfl, ag⟩ := aL.rowAt (i := 2) (j := no.toNat) rfl Y
 rw [← zm default Y] at N ag
 exact zg (v := (e.getD no.toNat default).v) Tryd.isAgg40 (X 3 dc) (N.get (j := 1) rfl) dR
 obtain ⟨g, D, aM⟩ := V
 refine obl rfl ?_
 have Z : no.toNat < e.length := bo
 obtain ⟨_, _, O, rfl, ah⟩ := aM.rowAt (i := 3) (j := no.toNat) rfl Z
 rw [← zm default Z] at O ah
 exact zg (v := (e.getD no.toNat default).v) Tryd.isAgg40 (X 3 dc) (O.get (j := 1) rfl) dR
 exact fun _ _ _ _ _ _ _ => obl rfl (zb (v := Iw d) rfl dR)
 exact fun _ _ _ _ _ _ _ => obl rfl (xl rfl dR)
 exact ob1 0 fun _ _ (aN : Sep _ _ _ _) aO => obl rfl (zg (v := Iv arg) Tryd.isAgg3 (aO 6 dc) (zh (aN.blk (i := 3) rfl) rfl) dR)
 refine ob1 0 fun _ _ (aP : Sep _ _ _ _) aQ => (obl rfl ((zD (k := 1) (parts' := [(0, Iv arg)]) (c := #[Iv arg]) Tryd.underlying40 Tryd.sizeOf3 Tryd.zeroValue3 dc (xF ⟨rfl, (aQ 7 dc), trivial⟩) kr ?_)))
 intro w280 g aR
 have aS := aP.new aR
 exact fun y A B => ⟨(Exists.intro g (And.intro A aS)), trivial⟩
 refine ob1 1 fun vals _ aT aa => ?_
 obtain ⟨g, D, aU⟩ := aT
 refine obl rfl ?_
 have aV := aU.mv1
 refine (zu (f := 95) (vals := [(e.getD no.toNat default).v, Iw d, (Iy g 1 1)]) (cap := []) rfl (yP ⟨(aa 4 dc), (aa 5 dc), D, trivial⟩) Tryd.call95 (Qc (i := d) aV (p.1) (harg) ((by have h9 : ((l.getD no.toNat default).set).length ≤ 1000 := hfew; omega))) ?_)
 rintro m w294 ⟨_, rfl, ab⟩
 have aW := ab.row (i := 0) rfl
 have hr296s : _ * 8 ≤ _ := aW.2
 exact fun y A B => ⟨(Exists.intro g (Exists.intro m (And.intro ((B 8 dc).trans D) (And.intro A ab)))), trivial⟩
 exact fun _ _ _ _ _ _ aX => obl rfl (zH (b := sb vc) (o := so vc + no.toNat * 2) (aX 0 dc) dR)
 exact fun _ _ _ _ _ _ aY => obl rfl (yN (aY 10 dc) dR)
 refine ob1 2 fun _ _ aZ ba => ?_
 obtain ⟨g, m, D, K, ac⟩ := aZ
 refine obl rfl ?_
 have F := ac.row (i := 0) rfl
 have hr321s : _ * 8 ≤ _ := F.2
 have bb := ac.mv2
 have bc := bb.emp1
 refine (yE (α := CelS) (j := no.toNat) (o := 1) (u := m) (us := [m]) (x1 := (⟨(e.getD no.toNat default).n, m⟩ : CelS)) bc Tryd.sizeOf40 bo (ba 11 (by decide)) K (congrArg Array.toList (yX F.1.one)) (Nat.le_of_ble_eq_true rfl) (ya ⟨F.1.one, trivial⟩) (fun _ _ _ hel _ => (by rw [← zm default (by omega)] at hel; obtain ⟨rfl, hok⟩ := hel; exact ⟨rfl, ⟨hok.n, F.1.one⟩⟩)) ?_)
 intro w320 ad
 have bd := ad.row (i := 0) rfl
 have hr325s : _ * 32 ≤ _ := bd.2
 exact fun y A B => ⟨(Exists.intro g (Exists.intro m (And.intro ((B 8 dc).trans D) (And.intro ((B 9 dc).trans K) ad)))), trivial⟩
 intro vals an be hA402
 obtain ⟨g, m, D, K, bf⟩ := be
 refine yf (kv := [(0, .agg #[Iv (fl.kind), Iv (fl.policy), .bool (fl.floor), dm, vc, Iv no, Iv arg]), (1, Ix H 0), (5, .agg #[Iv (fl.kind), Iv (fl.policy), .bool (fl.floor), dm, vc, Iv no, Iv arg]), (6, Ix (sb vc) (so vc + no.toNat * 2)), (2, Ix (sb vc) (so vc + no.toNat * 2)), (3, Iw d), (4, .bool (decide (arg ∈ ((l.getD no.toNat default).set)))), (17, .bool (decide (arg ∈ ((l.getD no.toNat default).set)))), (18, .bool true)]) ⟨rfl, rfl, rfl, rfl, rfl, rfl, rfl, rfl, rfl, trivial⟩ (fun ρw400 => (zf (Xw Tryd.results83 ?_)))
 have bg := bf.s4_bcad
 have ae : Sep G W ((CelW vc 42 3 (l.set no.toNat (⟨(l.getD no.toNat default).n, (((l.getD no.toNat default).set).take d ++ arg :: ((l.getD no.toNat default).set).drop d)⟩ : Cel))) :: (Blk H #[Iv (fl.kind), Iv (fl.policy), .bool (fl.floor), dm, vc, Iv no, Iv arg] 101) :: Rs) an := CelW.close (i := no.toNat) (s := (⟨(e.getD no.toNat default).n, m⟩ : CelS)) (c := (⟨(l.getD no.toNat default).n, (((l.getD no.toNat default).set).take d ++ arg :: ((l.getD no.toNat default).set).drop d)⟩ : Cel)) E.1 E.2 om (E.2 _ om) bg
 have bh : Sep G W ((CelW vc 42 3 (l.set no.toNat (yD fl (yj l no) 3 arg))) :: (Blk H #[Iv (fl.kind), Iv (fl.policy), .bool (fl.floor), dm, vc, Iv no, Iv arg] 101) :: Rs) an := by
  rw [UY]; rw [Jh (l := (l.getD no.toNat default).set) hasc p.1 p.2.1 p.2.2 C] at ae
  exact ae
 have bi := bh.s2_a
 refine ⟨rfl, bi⟩

set_option maxHeartbeats 4000000 in
theorem QM {G : Nat → Prop} {W w : World} {Rs : List HP} {fl : Fld} {dm vc : Value} {no arg : Int} {l : List Cel} (hS0 : Sep G W ((CelW vc 42 3 l) :: Rs) w) (hno : 0 ≤ no ∧ no < l.length) (hno0 : InR no) (harg : InR arg) (hasc : Asc (yj l no).set) : Ret Tryd.prog 84 [.agg #[.int .i64 (fl.kind), .int .i64 (fl.policy), .bool (fl.floor), dm, vc, .int .i64 (no), .int .i64 (arg)]] w (fun r w' => r = (.tuple #[] : Value) ∧ Sep G W ((CelW vc 42 3 (l.set no.toNat (yD fl (yj l no) 4 arg))) :: Rs) w') := by
 refine zr (args := [.agg #[Iv (fl.kind), Iv (fl.policy), .bool (fl.floor), dm, vc, Iv no, Iv arg]]) Tryd.func84 rfl rfl ?_
 obtain ⟨g, A, aB⟩ := CelW.open hS0
 have hsh2l := A.1
 have aU := aB.row (i := 0) rfl
 have hr4s : _ * 32 ≤ _ := aU.2
 have aE : Sep G W ((RowE (α := CelS) own 42 vc g) :: (Star (SetRows 3 g l)) :: Rs) w := aB
 refine zd (za kr (fun _ => (st (zT (v := .agg #[Iv (fl.kind), Iv (fl.policy), .bool (fl.floor), dm, vc, Iv no, Iv arg]) rfl ?_))))
 intro w7 F aV
 have aC := aE.new aV
 refine zf (zd (za kr (fun _ => (st (zl (k := 7) Tryd.isAgg101 Tryd.sizeOf101 rfl rfl (CellsAt.all (aC.blk (i := 0) rfl)) ?_)))))
 have aW := aC.mv1
 refine st (zu (f := 79) (vals := [.agg #[Iv (fl.kind), Iv (fl.policy), .bool (fl.floor), dm, vc, Iv no, Iv arg]]) (cap := []) rfl rfl Tryd.call79 (ZY  aW bo) ?_)
 rintro _ aX ⟨rfl, T⟩
 have aF := T.row (i := 0) rfl
 have hr12s : _ * 32 ≤ _ := aF.2
 have aG := T.mv2
 have U : Sep G W ((RowE (α := Int) own 3 ((g.getD no.toNat default).v) ((l.getD no.toNat default).set)) :: (Star ((SetRows 3 g l).set no.toNat Emp)) :: (RowE (α := CelS) own 42 vc g) :: (Blk F #[Iv (fl.kind), Iv (fl.policy), .bool (fl.floor), dm, vc, Iv no, Iv arg] 101) :: Rs) aX := Sep.takeStar aG (SetRows.get (i := no.toNat) om om)
 have aH := U.row (i := 0) rfl
 have hr15s : _ * 8 ≤ _ := aH.2
 refine st (ze (v := Ix (sb vc) (so vc + no.toNat * 2)) rfl (zf (zd ?_)))
 refine WD4 ((fun TT aD => WF [fun vals wq => Sep G W (aD :: TT) wq, fun vals wq => ∃ (d : Nat), (vals 6 = (.tuple #[Iw d, .bool (decide (arg ∈ ((l.getD no.toNat default).set)))] : Value)) ∧ (d ≤ ((l.getD no.toNat default).set).length ∧ (∀ q, q < d → ((l.getD no.toNat default).set).getD q 0 < arg) ∧ (∀ q, d ≤ q → q < ((l.getD no.toNat default).set).length → arg ≤ ((l.getD no.toNat default).set).getD q 0)) ∧ Sep G W (aD :: TT) wq]) ((Star ((SetRows 3 g l).set no.toNat Emp)) :: (RowE (α := CelS) own 42 vc g) :: (Blk F #[Iv (fl.kind), Iv (fl.policy), .bool (fl.floor), dm, vc, Iv no, Iv arg] 101) :: Rs) (RowE (α := Int) own 3 ((g.getD no.toNat default).v) ((l.getD no.toNat default).set))) (AF [Vl 0 (Ix (sb vc) (so vc + no.toNat * 2)), Vl 1 (Ix (sb vc) (so vc + no.toNat * 2)), Vl 2 (Ix (sb vc) (so vc + no.toNat * 2 + 1)), Vl 3 ((g.getD no.toNat default).v), Vl 4 (Ix F 6), Vl 5 (Iv arg), fun _ => True, fun vals => ∀ (d : Nat), vals 6 = (.tuple #[Iw d, .bool (decide (arg ∈ ((l.getD no.toNat default).set)))] : Value) → vals 7 = (.tuple #[Iw d, .bool (decide (arg ∈ ((l.getD no.toNat default).set)))] : Value), fun vals => ∀ (d : Nat), vals 6 = (.tuple #[Iw d, .bool (decide (arg ∈ ((l.getD no.toNat default).set)))] : Value) → vals 8 = (Iw d : Value), Vl 9 (.bool (decide (arg ∈ ((l.getD no.toNat default).set)))), fun vals => ∀ (d : Nat), vals 6 = (.tuple #[Iw d, .bool (decide (arg ∈ ((l.getD no.toNat default).set)))] : Value) → vals 10 = (Iw d : Value), Vl 11 (.bool (decide (arg ∈ ((l.getD no.toNat default).set))))]) [[], [0], [0, 1], [0, 1, 2], [], [4], (rg 6), (rg 7), (rg 8), (rg 8), (rg 9), (rg 11)] [6] [(0, 0), (0, 0), (0, 0), (0, 0), (0, 0), (0, 0), (0, 0), (1, 1), (1, 1), (1, 1), (1, 1), (1, 1)] U ⟨?_, ?_, ?_, ?_, ?_, ?_, ?_, ?_, ?_, ?_, ?_, ?_, trivial⟩ ?_ (hlocA := yZ ⟨dA, dA, dA, dA, dA, dA, dT, fun vals y z h => fun d p => (z 7 (.inl rfl)).trans (h d ((z 6 (.inr dc)).symm.trans p)), fun vals y z h => fun d p => (z 8 (.inl rfl)).trans (h d ((z 6 (.inr dc)).symm.trans p)), dA, fun vals y z h => fun d p => (z 10 (.inl rfl)).trans (h d ((z 6 (.inr dc)).symm.trans p)), dA, trivial⟩)
 exact fun _ _ _ _ _ _ _ => obl rfl (zb (v := Ix (sb vc) (so vc + no.toNat * 2)) rfl dR)
 exact fun _ _ _ _ _ _ Z => obl rfl (zH (b := sb vc) (o := so vc + no.toNat * 2) (Z 0 dc) dR)
 exact fun _ _ _ _ _ _ aa => obl rfl (yN (aa 1 dc) dR)
 refine ob1 0 fun _ _ (ab : Sep _ _ _ _) ac => (obl rfl ?_)
 have J : no.toNat < g.length := bo
 obtain ⟨_, _, H, rfl, R⟩ := ab.rowAt (i := 2) (j := no.toNat) rfl J
 rw [← zm default J] at H R
 exact zg (v := (g.getD no.toNat default).v) Tryd.isAgg40 (ac 2 dc) (H.get (j := 1) rfl) dR
 exact fun _ _ _ _ _ _ _ => obl rfl (xl rfl dR)
 exact ob1 0 fun _ _ (ad : Sep _ _ _ _) ae => obl rfl (zg (v := Iv arg) Tryd.isAgg3 (ae 4 dc) (zh (ad.blk (i := 3) rfl) rfl) dR)
 refine ob1 0 fun vals _ (aJ : Sep _ _ _ _) V => (obl rfl ?_)
 obtain ⟨G69, aK, hB72, aL, aM⟩ := aJ.lend
 have K := RowE.rd aK
 have hrd75s : _ * 8 ≤ _ := K.small
 refine (zu (f := 94) (vals := [(g.getD no.toNat default).v, Iv arg]) (cap := []) rfl (yP ⟨(V 3 dc), (V 5 dc), trivial⟩) Tryd.call94 (Ym (l := (l.getD no.toNat default).set) (vl := (g.getD no.toNat default).v) (x := arg) K om aL (hasc)) ?_)
 rintro _ w78 ⟨d, rfl, e, aN⟩
 have aO := aM _ _ aN
 exact fun y z C => ⟨(Exists.intro d (And.intro z (And.intro e aO))), trivial⟩
 refine ob1 1 fun _ _ af _ => ?_
 obtain ⟨d, m, e, hS171⟩ := af
 refine obl rfl (zb (v := .tuple #[Iw d, .bool (decide (arg ∈ ((l.getD no.toNat default).set)))]) m (fun y z C => ⟨rfl, ?_⟩))
 intro L p
 rw [C 6 (by decide)] at p; cases m.symm.trans p
 exact z
 refine ob1 1 fun vals _ ag ah => ?_
 obtain ⟨d, m, e, hS178⟩ := ag
 have aP : vals 7 = (.tuple #[Iw d, .bool (decide (arg ∈ ((l.getD no.toNat default).set)))] : Value) := ah 7 dc d m
 refine obl rfl (zE (vs := [Iw d, .bool (decide (arg ∈ ((l.getD no.toNat default).set)))]) (i := 0) (v := Iw d) aP rfl (fun y z C => ⟨rfl, ?_⟩))
 intro L p
 rw [C 6 (by decide)] at p; cases m.symm.trans p
 exact z
 refine ob1 1 fun vals _ ai aj => ?_
 obtain ⟨d, m, e, hS186⟩ := ai
 have aQ : vals 7 = (.tuple #[Iw d, .bool (decide (arg ∈ ((l.getD no.toNat default).set)))] : Value) := aj 7 dc d m
 exact obl rfl (zE (vs := [Iw d, .bool (decide (arg ∈ ((l.getD no.toNat default).set)))]) (i := 1) (v := .bool (decide (arg ∈ ((l.getD no.toNat default).set)))) aQ rfl dR)
 refine ob1 1 fun vals _ ak al => ?_
 obtain ⟨d, m, e, hS194⟩ := ak
 have aR : vals 8 = (Iw d : Value) := al 8 dc d m
 refine obl rfl (ze (v := Iw d) aR (fun y z C => ⟨rfl, ?_⟩))
 intro L p
 rw [C 6 (by decide)] at p; cases m.symm.trans p
 exact z
 refine ob1 1 fun _ _ am an => ?_
 obtain ⟨d, m, e, hS202⟩ := am
 exact obl rfl (ze (v := .bool (decide (arg ∈ ((l.getD no.toNat default).set)))) (an 9 dc) dR)
 intro vals X ao M
 obtain ⟨d, m, e, D⟩ := ao
 have aS : vals 10 = (Iw d : Value) := M 10 dc d m
 have aT := M 11 dc
 refine yf (kv := [(0, .agg #[Iv (fl.kind), Iv (fl.policy), .bool (fl.floor), dm, vc, Iv no, Iv arg]), (1, Ix F 0), (5, .agg #[Iv (fl.kind), Iv (fl.policy), .bool (fl.floor), dm, vc, Iv no, Iv arg]), (6, Ix (sb vc) (so vc + no.toNat * 2)), (2, Ix (sb vc) (so vc + no.toNat * 2)), (3, Iw d), (4, .bool (decide (arg ∈ ((l.getD no.toNat default).set))))]) ⟨rfl, rfl, rfl, rfl, rfl, (by exact aS), (by exact aT), trivial⟩ (fun ρw204 => (zf (zd (za kr (fun _ => (st (zb (v := .bool (decide (arg ∈ ((l.getD no.toNat default).set)))) rfl (zf ?_))))))))
 cases t : decide (arg ∈ ((l.getD no.toNat default).set))
 have t := fD t
 refine zn rfl (zv (Xw Tryd.results84 ?_))
 have ap : Sep G W ((CelW vc 42 3 l) :: (Blk F #[Iv (fl.kind), Iv (fl.policy), .bool (fl.floor), dm, vc, Iv no, Iv arg] 101) :: Rs) X := CelW.close0 (i := no.toNat) A.1 A.2 om D
 have aq : Sep G W ((CelW vc 42 3 (l.set no.toNat (yD fl (yj l no) 4 arg))) :: (Blk F #[Iv (fl.kind), Iv (fl.policy), .bool (fl.floor), dm, vc, Iv no, Iv arg] 101) :: Rs) X := by
  rw [Vn (show ¬ arg ∈ (yj l no).set from t), show l.set no.toNat (yj l no) = l from xK default (by omega)]
  exact ap
 have ar := aq.s2_a
 refine ⟨rfl, ar⟩
 have t := tD t
 refine zo rfl (za kr (fun _ => (st (zb (v := Ix (sb vc) (so vc + no.toNat * 2)) rfl (st (zb (v := Ix (sb vc) (so vc + no.toNat * 2)) rfl (st (zH (b := sb vc) (o := so vc + no.toNat * 2) rfl (st (yN rfl ?_))))))))))
 have N : no.toNat < g.length := bo
 obtain ⟨_, _, I, rfl, S⟩ := D.rowAt (i := 2) (j := no.toNat) rfl N
 rw [← zm default N] at I S
 refine st (zg (v := (g.getD no.toNat default).v) Tryd.isAgg40 rfl (I.get (j := 1) rfl) (st (zb (v := Iw d) rfl (st (zb (v := Iw d) rfl ?_)))))
 have au : InR ((d + 1 : Nat) : Int) := bo
 refine st (zV (r := ((d + 1 : Nat) : Int)) (k := .i64) (a := ((d : Nat) : Int)) (b := 1) rfl rfl (by rw [show (((d : Nat) : Int) + 1 : Int) = ((d + 1 : Nat) : Int) from bo]; exact zM au) (st (zu (f := 96) (vals := [(g.getD no.toNat default).v, Iw d, Iw (d + 1)]) (cap := []) rfl rfl Tryd.call96 (Qa (i := d) D ((Qn (l := (l.getD no.toNat default).set) hasc e.1 e.2.1 e.2.2 t).1)) ?_)))
 rintro E w218 ⟨_, rfl, O⟩
 have B := O.row (i := 0) rfl
 have hr220s : _ * 8 ≤ _ := B.2
 refine st (zH (b := sb vc) (o := so vc + no.toNat * 2) rfl (st (yN rfl ?_)))
 have av := O.mv2
 have aw := av.emp1
 refine stn (yE (α := CelS) (j := no.toNat) (o := 1) (u := E) (us := [E]) (x1 := (⟨(g.getD no.toNat default).n, E⟩ : CelS)) aw Tryd.sizeOf40 bo rfl rfl (congrArg Array.toList (yX B.1.one)) (Nat.le_of_ble_eq_true rfl) (ya ⟨B.1.one, trivial⟩) (fun _ _ _ hel _ => (by rw [← zm default (by omega)] at hel; obtain ⟨rfl, hok⟩ := hel; exact ⟨rfl, ⟨hok.n, B.1.one⟩⟩)) ?_)
 intro Y P
 have ax := P.row (i := 0) rfl
 have hr225s : _ * 32 ≤ _ := ax.2
 refine zf (Xw Tryd.results84 ?_)
 have ay := P.s4_bcad
 have Q : Sep G W ((CelW vc 42 3 (l.set no.toNat (⟨(l.getD no.toNat default).n, (((l.getD no.toNat default).set).take d ++ ((l.getD no.toNat default).set).drop (d + 1))⟩ : Cel))) :: (Blk F #[Iv (fl.kind), Iv (fl.policy), .bool (fl.floor), dm, vc, Iv no, Iv arg] 101) :: Rs) Y := CelW.close (i := no.toNat) (s := (⟨(g.getD no.toNat default).n, E⟩ : CelS)) (c := (⟨(l.getD no.toNat default).n, (((l.getD no.toNat default).set).take d ++ ((l.getD no.toNat default).set).drop (d + 1))⟩ : Cel)) A.1 A.2 om (A.2 _ om) ay
 have az : Sep G W ((CelW vc 42 3 (l.set no.toNat (yD fl (yj l no) 4 arg))) :: (Blk F #[Iv (fl.kind), Iv (fl.policy), .bool (fl.floor), dm, vc, Iv no, Iv arg] 101) :: Rs) Y := by
  rw [Qt]; rw [(Qn (l := (l.getD no.toNat default).set) hasc e.1 e.2.1 e.2.2 t).2] at Q
  exact Q
 have aA := az.s2_a
 refine ⟨rfl, aA⟩

theorem D_rdo {G : Nat → Prop} {W w : World} {Rs : List HP} {op : Int} {x : Rul} {fl : Fld} {dm vc : Value} {no arg : Int} {l : List Cel} (hS0 : Sep G W ((CelW vc 42 3 l) :: Rs) w) (hno : 0 ≤ no ∧ no < l.length) (hno0 : InR no) (harg : InR arg) (hx : xT xG op = some x) (hop : op = 1 ∨ op = 2 ∨ op = 3 ∨ op = 4 ∨ op = 5) (hdm : RdS W G dm fl.moves) (hak : ((op = 3 ∨ op = 4) → Asc (yj l no).set) ∧ (op = 5 → 0 ≤ arg ∧ arg < fl.moves.length)) (hfew : op = 3 → (yj l no).set.length ≤ 1000) : Ret Tryd.prog x.does [.agg #[.int .i64 (fl.kind), .int .i64 (fl.policy), .bool (fl.floor), dm, vc, .int .i64 (no), .int .i64 (arg)]] w (fun r w' => r = (.tuple #[] : Value) ∧ Sep G W ((CelW vc 42 3 (l.set no.toNat (yD fl (yj l no) op arg))) :: Rs) w') := by
  rcases hop with rfl | rfl | rfl | rfl | rfl <;> cases hx
  · exact Kf hS0 hno hno0 harg
  · exact Kt hS0 hno hno0 harg
  · exact QS hS0 hno hno0 harg (hak.1 (.inl rfl)) (hfew rfl)
  · exact QM hS0 hno hno0 harg (hak.1 (.inr rfl))
  · exact Qv hS0 hno hno0 harg hdm (hak.2 rfl)
end Go.Proofs.YtlblilbmpdejgaaDoor
