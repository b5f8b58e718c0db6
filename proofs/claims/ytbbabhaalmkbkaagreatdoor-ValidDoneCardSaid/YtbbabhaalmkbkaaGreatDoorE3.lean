import Derived.Test.YtbbabhaalmkbkaaGreatDoorProg
import Derived.Test.YtbbabhaalmkbkaaGreatDoorE1
import Derived.Test.YtbbabhaalmkbkaaGreatDoorE2
import Derived.Shelf.Spec.SlicesInsertGrow
import Derived.Shelf.Slices.Delete
set_option linter.unusedSimpArgs false
set_option linter.unusedVariables false
set_option linter.unusedSectionVars false
set_option linter.deprecated false
open Go.Proofs.Tryz renaming sizeOf3→kT,isAgg3→lT,underlying3→mT,underlying39→nT,underlying41→oT,underlying28→pT,underlying106→qT,sizeOf39→rT,underlying115→sT,underlying45→tT,underlying112→uT,underlying110→vT,sizeOf4→wT,underlying136→kR,underlying83→lR,isAgg112→mR,sizeOf112→nR,call63→oR,isAgg4→pR,isAgg39→qR,sizeOf110→rR,underlying89→sR,underlying4→tR,zeroValue3→uR,sizeOf99→vR,results83→wR,sizeOf136→kY,zeroValue104→lY,results31→mY,sizeOf45→nY,underlying99→oY,underlying104→pY,underlying25→qY,underlying38→rY,underlying47→sY,results44→tY,results43→uY,underlying143→vY,isAgg45→wY,results61→kA,results66→lA,call64→mA,sizeOf104→nA,underlying0→pA,isAgg0→qA,sizeOf0→rA,zeroValue0→sA,zeroValue4→tA,zeroValue39→uA
namespace Go.Proofs.YtbbabhaalmkbkaaGreatDoor
section
set_option maxRecDepth 8000
open Go.Proofs Go.RowKit
section
variable {d:Option Tmp}{ty:TypeId}{pos:String}{af:Array Edge}{g:Option (Nat×Bool)}{σ:Env}{w:World}{K:Value→World→Prop}{x:Operand}{b o:Nat}
theorem WL (hx:ev σ x=Ix b o)(h:K (Ix b (o+4)) w):opV Tryz.prog ⟨d,.fieldAddr 112 x 1,ty,pos,af,g⟩ σ w K:=zo uT rfl rfl (fun w=>⟨0,nY w⟩) hx h
theorem Qo (hx:ev σ x=Ix b o)(h:K (Ix b (o+5)) w):opV Tryz.prog ⟨d,.fieldAddr 112 x 2,ty,pos,af,g⟩ σ w K:=zo uT rfl rfl (fun w=>⟨0,kT w⟩) hx h
theorem Zv (hx:ev σ x=Ix b o)(h:K (Ix b (o+0)) w):opV Tryz.prog ⟨d,.fieldAddr 99 x 0,ty,pos,af,g⟩ σ w K:=zo oY rfl rfl (fun w=>⟨0,kT w⟩) hx h
theorem xm (hx:ev σ x=Ix b o)(h:K (Ix b (o+6)) w):opV Tryz.prog ⟨d,.fieldAddr 112 x 3,ty,pos,af,g⟩ σ w K:=zo uT rfl rfl (fun w=>⟨0,kT w⟩) hx h
theorem Xb (hx:ev σ x=Ix b o)(h:K (Ix b (o+0)) w):opV Tryz.prog ⟨d,.fieldAddr 112 x 0,ty,pos,af,g⟩ σ w K:=zo uT rfl rfl (fun w=>⟨3,rR w⟩) hx h
theorem WG (hx:ev σ x=Ix b o)(h:K (Ix b (o+2)) w):opV Tryz.prog ⟨d,.fieldAddr 110 x 2,ty,pos,af,g⟩ σ w K:=zo vT rfl rfl (fun w=>⟨0,wT w⟩) hx h
theorem xx (hx:ev σ x=Ix b o)(h:K (Ix b (o+1)) w):opV Tryz.prog ⟨d,.fieldAddr 99 x 1,ty,pos,af,g⟩ σ w K:=zo oY rfl rfl (fun w=>⟨0,rT w⟩) hx h
theorem yL (hx:ev σ x=Ix b o)(h:K (Ix b (o+3)) w):opV Tryz.prog ⟨d,.fieldAddr 110 x 3,ty,pos,af,g⟩ σ w K:=zo vT rfl rfl (fun w=>⟨0,Tryz.sizeOf108 w⟩) hx h
theorem UW (hx:ev σ x=Ix b o)(h:K (Ix b (o+0)) w):opV Tryz.prog ⟨d,.fieldAddr 136 x 0,ty,pos,af,g⟩ σ w K:=zo kR rfl rfl (fun w=>⟨0,kT w⟩) hx h
theorem Yr (hx:ev σ x=Ix b o)(h:K (Ix b (o+2)) w):opV Tryz.prog ⟨d,.fieldAddr 136 x 2,ty,pos,af,g⟩ σ w K:=zo kR rfl rfl (fun w=>⟨0,kT w⟩) hx h
theorem UX (hx:ev σ x=Ix b o)(h:K (Ix b (o+3)) w):opV Tryz.prog ⟨d,.fieldAddr 136 x 3,ty,pos,af,g⟩ σ w K:=zo kR rfl rfl (fun w=>⟨0,kT w⟩) hx h
theorem zay (hx:ev σ x=Ix b o)(h:K (Ix b (o+0)) w):opV Tryz.prog ⟨d,.fieldAddr 104 x 0,ty,pos,af,g⟩ σ w K:=zo pY rfl rfl (fun w=>⟨0,Tryz.sizeOf101 w⟩) hx h
theorem xe (hx:ev σ x=Ix b o)(h:K (Ix b (o+0)) w):opV Tryz.prog ⟨d,.fieldAddr 53 x 0,ty,pos,af,g⟩ σ w K:=zo Tryz.underlying53 rfl rfl (fun w=>⟨0,Tryz.sizeOf51 w⟩) hx h
theorem UY (hx:ev σ x=Ix b o)(h:K (Ix b (o+1)) w):opV Tryz.prog ⟨d,.fieldAddr 136 x 1,ty,pos,af,g⟩ σ w K:=zo kR rfl rfl (fun w=>⟨0,kT w⟩) hx h
theorem zaa (hx:ev σ x=Ix b o)(h:K (Ix b (o+1)) w):opV Tryz.prog ⟨d,.fieldAddr 104 x 1,ty,pos,af,g⟩ σ w K:=zo pY rfl rfl (fun w=>⟨0,Tryz.sizeOf102 w⟩) hx h
theorem yG (hx:ev σ x=Ix b o)(h:K (Ix b (o+0)) w):opV Tryz.prog ⟨d,.fieldAddr 25 x 0,ty,pos,af,g⟩ σ w K:=zo qY rfl rfl (fun w=>⟨0,Tryz.sizeOf22 w⟩) hx h
theorem Xm (hx:ev σ x=Ix b o)(h:K (Ix b (o+1)) w):opV Tryz.prog ⟨d,.fieldAddr 25 x 1,ty,pos,af,g⟩ σ w K:=zo qY rfl rfl (fun w=>⟨0,Tryz.sizeOf23 w⟩) hx h
theorem xF (hx:ev σ x=Ix b o)(h:K (Ix b (o+0)) w):opV Tryz.prog ⟨d,.fieldAddr 110 x 0,ty,pos,af,g⟩ σ w K:=zo vT rfl rfl (fun w=>⟨0,kT w⟩) hx h
theorem Yw (hx:ev σ x=Ix b o)(h:K (Ix b (o+1)) w):opV Tryz.prog ⟨d,.fieldAddr 110 x 1,ty,pos,af,g⟩ σ w K:=zo vT rfl rfl (fun w=>⟨0,kT w⟩) hx h
theorem Qj (hx:ev σ x=Ix b o)(h:K (Ix b (o+0)) w):opV Tryz.prog ⟨d,.fieldAddr 115 x 0,ty,pos,af,g⟩ σ w K:=zo sT rfl rfl (fun w=>⟨0,kT w⟩) hx h
theorem zaq (hx:ev σ x=Ix b o)(h:K (Ix b (o+1)) w):opV Tryz.prog ⟨d,.fieldAddr 115 x 1,ty,pos,af,g⟩ σ w K:=zo sT rfl rfl (fun w=>⟨0,kT w⟩) hx h
theorem Xe (hx:ev σ x=Ix b o)(h:K (Ix b (o+2)) w):opV Tryz.prog ⟨d,.fieldAddr 115 x 2,ty,pos,af,g⟩ σ w K:=zo sT rfl rfl (fun w=>⟨0,kT w⟩) hx h
theorem UZ (hx:ev σ x=Ix b o)(h:K (Ix b (o+3)) w):opV Tryz.prog ⟨d,.fieldAddr 115 x 3,ty,pos,af,g⟩ σ w K:=zo sT rfl rfl (fun w=>⟨0,kT w⟩) hx h
theorem UT (hx:ev σ x=Ix b o)(h:K (Ix b (o+4)) w):opV Tryz.prog ⟨d,.fieldAddr 115 x 4,ty,pos,af,g⟩ σ w K:=zo sT rfl rfl (fun w=>⟨0,kT w⟩) hx h
theorem xf (hx:ev σ x=Ix b o)(h:K (Ix b (o+3)) w):opV Tryz.prog ⟨d,.fieldAddr 41 x 2,ty,pos,af,g⟩ σ w K:=zo oT rfl rfl (fun w=>⟨0,rT w⟩) hx h
theorem yD (hx:ev σ x=Ix b o)(h:K (Ix b (o+0)) w):opV Tryz.prog ⟨d,.fieldAddr 41 x 0,ty,pos,af,g⟩ σ w K:=zo oT rfl rfl (fun w=>⟨1,Tryz.sizeOf38 w⟩) hx h
theorem xD (hx:ev σ x=Ix b o)(h:K (Ix b (o+0)) w):opV Tryz.prog ⟨d,.fieldAddr 38 x 0,ty,pos,af,g⟩ σ w K:=zo rY rfl rfl (fun w=>⟨0,kT w⟩) hx h
theorem Zz (hx:ev σ x=Ix b o)(h:K (Ix b (o+1)) w):opV Tryz.prog ⟨d,.fieldAddr 38 x 1,ty,pos,af,g⟩ σ w K:=zo rY rfl rfl (fun w=>⟨0,kT w⟩) hx h
theorem Xg (hx:ev σ x=Ix b o)(h:K (Ix b (o+0)) w):opV Tryz.prog ⟨d,.fieldAddr 166 x 0,ty,pos,af,g⟩ σ w K:=zo Tryz.underlying166 rfl rfl (fun w=>⟨0,kT w⟩) hx h
theorem Zo (hx:ev σ x=Ix b o)(h:K (Ix b (o+8)) w):opV Tryz.prog ⟨d,.fieldAddr 41 x 7,ty,pos,af,g⟩ σ w K:=zo oT rfl rfl (fun w=>⟨0,kT w⟩) hx h
theorem xS (hx:ev σ x=Ix b o)(h:K (Ix b (o+7)) w):opV Tryz.prog ⟨d,.fieldAddr 41 x 6,ty,pos,af,g⟩ σ w K:=zo oT rfl rfl (fun w=>⟨0,kT w⟩) hx h
theorem yY (hx:ev σ x=Ix b o)(h:K (Ix b (o+1)) w):opV Tryz.prog ⟨d,.fieldAddr 47 x 1,ty,pos,af,g⟩ σ w K:=zo sY rfl rfl (fun w=>⟨0,nY w⟩) hx h
theorem Ka (hx:ev σ x=Ix b o)(h:K (Ix b (o+0)) w):opV Tryz.prog ⟨d,.fieldAddr 83 x 0,ty,pos,af,g⟩ σ w K:=zo lR rfl rfl (fun w=>⟨1,Tryz.sizeOf25 w⟩) hx h
theorem Zu (hx:ev σ x=Ix b o)(h:K (Ix b (o+4)) w):opV Tryz.prog ⟨d,.fieldAddr 41 x 3,ty,pos,af,g⟩ σ w K:=zo oT rfl rfl (fun w=>⟨0,kT w⟩) hx h
theorem xW (hx:ev σ x=Ix b o)(h:K (Ix b (o+6)) w):opV Tryz.prog ⟨d,.fieldAddr 41 x 5,ty,pos,af,g⟩ σ w K:=zo oT rfl rfl (fun w=>⟨0,kT w⟩) hx h
theorem Xp (hx:ev σ x=Ix b o)(h:K (Ix b (o+5)) w):opV Tryz.prog ⟨d,.fieldAddr 41 x 4,ty,pos,af,g⟩ σ w K:=zo oT rfl rfl (fun w=>⟨0,kT w⟩) hx h
theorem Jg (hx:ev σ x=Ix b o)(h:K (Ix b (o+4)) w):opV Tryz.prog ⟨d,.fieldAddr 83 x 3,ty,pos,af,g⟩ σ w K:=zo lR rfl rfl (fun w=>⟨0,Tryz.sizeOf81 w⟩) hx h
theorem Uh (hx:ev σ x=Ix b o)(h:K (Ix b (o+3)) w):opV Tryz.prog ⟨d,.fieldAddr 83 x 2,ty,pos,af,g⟩ σ w K:=zo lR rfl rfl (fun w=>⟨0,Tryz.sizeOf80 w⟩) hx h
theorem Qi (hx:ev σ x=Ix b o)(h:K (Ix b (o+0)) w):opV Tryz.prog ⟨d,.fieldAddr 131 x 0,ty,pos,af,g⟩ σ w K:=zo Tryz.underlying131 rfl rfl (fun w=>⟨1,Tryz.sizeOf85 w⟩) hx h
theorem ZS (hx:ev σ x=Ix b o)(h:K (Ix b (o+0)) w):opV Tryz.prog ⟨d,.fieldAddr 47 x 0,ty,pos,af,g⟩ σ w K:=zo sY rfl rfl (fun w=>⟨0,kT w⟩) hx h
theorem Kr (hx:ev σ x=Ix b o)(h:K (Ix b (o+2)) w):opV Tryz.prog ⟨d,.fieldAddr 83 x 1,ty,pos,af,g⟩ σ w K:=zo lR rfl rfl (fun w=>⟨0,Tryz.sizeOf79 w⟩) hx h
theorem Zi (hx:ev σ x=Ix b o)(h:K (Ix b (o+2)) w):opV Tryz.prog ⟨d,.fieldAddr 41 x 1,ty,pos,af,g⟩ σ w K:=zo oT rfl rfl (fun w=>⟨0,kT w⟩) hx h
theorem YF (hx:ev σ x=Ix b o)(h:K (Ix b (o+9)) w):opV Tryz.prog ⟨d,.fieldAddr 41 x 8,ty,pos,af,g⟩ σ w K:=zo oT rfl rfl (fun w=>⟨0,kT w⟩) hx h
theorem Xs (hx:ev σ x=Ix b o)(h:K (Ix b (o+1)) w):opV Tryz.prog ⟨d,.fieldAddr 28 x 1,ty,pos,af,g⟩ σ w K:=zo pT rfl rfl (fun w=>⟨0,kT w⟩) hx h
theorem YK (hx:ev σ x=Ix b o)(h:K (Ix b (o+6)) w):opV Tryz.prog ⟨d,.fieldAddr 28 x 6,ty,pos,af,g⟩ σ w K:=zo pT rfl rfl (fun w=>⟨0,kT w⟩) hx h
theorem Yk (hx:ev σ x=Ix b o)(h:K (Ix b (o+5)) w):opV Tryz.prog ⟨d,.fieldAddr 28 x 5,ty,pos,af,g⟩ σ w K:=zo pT rfl rfl (fun w=>⟨0,kT w⟩) hx h
theorem ZO (hx:ev σ x=Ix b o)(h:K (Ix b (o+0)) w):opV Tryz.prog ⟨d,.fieldAddr 28 x 0,ty,pos,af,g⟩ σ w K:=zo pT rfl rfl (fun w=>⟨0,kT w⟩) hx h
theorem Vm (hx:ev σ x=Ix b o)(h:K (Ix b (o+2)) w):opV Tryz.prog ⟨d,.fieldAddr 28 x 2,ty,pos,af,g⟩ σ w K:=zo pT rfl rfl (fun w=>⟨0,kT w⟩) hx h
theorem WC (hx:ev σ x=Ix b o)(h:K (Ix b (o+3)) w):opV Tryz.prog ⟨d,.fieldAddr 28 x 3,ty,pos,af,g⟩ σ w K:=zo pT rfl rfl (fun w=>⟨0,kT w⟩) hx h
theorem XA (hx:ev σ x=Ix b o)(h:K (Ix b (o+4)) w):opV Tryz.prog ⟨d,.fieldAddr 28 x 4,ty,pos,af,g⟩ σ w K:=zo pT rfl rfl (fun w=>⟨0,kT w⟩) hx h
theorem XK (hx:ev σ x=Ix b o)(h:K (Ix b (o+0)) w):opV Tryz.prog ⟨d,.fieldAddr 89 x 0,ty,pos,af,g⟩ σ w K:=zo sR rfl rfl (fun w=>⟨0,rT w⟩) hx h
theorem Ul (hx:ev σ x=Ix b o)(h:K (Ix b (o+2)) w):opV Tryz.prog ⟨d,.fieldAddr 89 x 2,ty,pos,af,g⟩ σ w K:=zo sR rfl rfl (fun w=>⟨0,kT w⟩) hx h
theorem Ve (hx:ev σ x=Ix b o)(h:K (Ix b (o+1)) w):opV Tryz.prog ⟨d,.fieldAddr 89 x 1,ty,pos,af,g⟩ σ w K:=zo sR rfl rfl (fun w=>⟨0,Tryz.sizeOf87 w⟩) hx h
theorem zbE (hx:ev σ x=Ix b o)(h:K (Ix b (o+10)) w):opV Tryz.prog ⟨d,.fieldAddr 57 x 1,ty,pos,af,g⟩ σ w K:=zo Tryz.underlying57 rfl rfl (fun w=>⟨0,wT w⟩) hx h
end
theorem yqb {p:Prop}(h:p:=by first|omega|(simp only[List.length_append,List.length_cons,List.length_nil,List.length_take,List.length_drop];omega)):p:=h
theorem yqa {p:Prop}(h:p:=by first|decide|(simp only[List.length_cons,List.length_nil];decide)):p:=h
theorem zbB {G:Nat→Prop}{W w:World}{Rs:List HP}{x:Int}(hx:InR x)(hS0:Sep G W Rs w):Ret Tryz.prog 99 [.int .i64 (x)] w (fun r w'=>r=(.bool false:Value)∧Sep G W Rs w'):=by
 refine zi (args:=[Iv x]) Tryz.func99 rfl rfl ?_
 refine za (R0 fun _=>st (aS (.bool false) (zd (za (R0 fun _=>st (mV (Iv x) (st (mV (Iv x) (st (yh (k:=.i64) (a:=x) (b:=x) rfl rfl (st (aS (.bool (!decide (x=x))) (zd (zj (zK Tryz.results99 (show _=(.bool (!decide (x=x)):Value)from rfl) ?_)))))))))))))))
 refine⟨?_,hS0⟩
 simp
theorem zbL {G:Nat→Prop}{W w:World}{Rs:List HP}{x:Int}(hx:InR x)(hS0:Sep G W Rs w):Ret Tryz.prog 102 [.int .i64 (x)] w (fun r w'=>r=(.bool false:Value)∧Sep G W Rs w'):=by
 refine zi (args:=[Iv x]) Tryz.func102 rfl rfl ?_
 refine za (R0 fun _=>st (aS (.bool false) (zd (za (R0 fun _=>st (mV (Iv x) (st (mV (Iv x) (st (yh (k:=.i64) (a:=x) (b:=x) rfl rfl (st (aS (.bool (!decide (x=x))) (zd (zj (zK Tryz.results102 (show _=(.bool (!decide (x=x)):Value)from rfl) ?_)))))))))))))))
 refine⟨?_,hS0⟩
 simp
theorem zbJ {G:Nat→Prop}{W w:World}{Rs:List HP}{x:Int}(hx:InR x){y:Int}(hy:InR y)(hS0:Sep G W Rs w):Ret Tryz.prog 101 [.int .i64 (x),.int .i64 (y)] w (fun r w'=>r=(.bool (decide (x<y)):Value)∧Sep G W Rs w'):=by
 refine zi (args:=[Iv x,Iv y]) Tryz.func101 rfl rfl ?_
 refine za (R0 fun _=>st (aS (.bool false) (zd (za (zz kr (st (mV (Iv x) (st (cL Tryz.call99 (zbB (x:=x) hx hS0) ?_)))))))))
 rintro _ w1 ⟨rfl,c⟩
 refine st (mV (.bool false) (stx rfl rfl (stx rfl rfl (stx rfl rfl (st (zU (v:=.bool false) rfl rfl (st (mV (.bool false) (sty rfl rfl (mV (Iv x) (sty rfl rfl (mV (Iv y) (sty rfl rfl (zJ (k:=.i64) (a:=x) (b:=y) rfl rfl (st (zU (v:=.bool (decide (x<y))) rfl rfl (st (aS (.bool (decide (x<y))) (zd (zj (zK Tryz.results101 (show _=(.bool (decide (x<y)):Value)from rfl) ?_)))))))))))))))))))))
 refine⟨?_,c⟩
 simp
theorem D_sum {G:Nat→Prop}{W w:World}{Rs:List HP}{x:Int}(hx:InR x){y:Int}(hy:InR y)(hS0:Sep G W Rs w):Ret Tryz.prog 82 [.int .i64 (x),.int .i64 (y)] w (fun r w'=>r=(.bool ((decide (x<XF (x+y))== decide (0<y))):Value)∧Sep G W Rs w'):=by
 refine zi (args:=[Iv x,Iv y]) Tryz.func82 rfl rfl ?_
 refine za (R0 fun _=>st (aS (.bool false) (zd (za (R0 fun _=>st (mV (Iv x) (st (mV (Iv y) (st (yb (r:=IntKind.i64.wrap (x+y)) (k:=.i64) (a:=x) (b:=y) rfl rfl rfl (st (mV (Iv x) (st (yU (k:=.i64) (a:=IntKind.i64.wrap (x+y)) (b:=x) rfl rfl (st (mV (Iv y) (st (yU (k:=.i64) (a:=y) (b:=0) rfl rfl (st (zaP (a:=decide (x<(IntKind.i64.wrap (x+y)))) (b:=decide (0<y)) tR rfl rfl (st (aS (.bool ((decide (x<(IntKind.i64.wrap (x+y))))== (decide (0<y)))) (zd (zj (zK Tryz.results82 (show _=(.bool ((decide (x<(IntKind.i64.wrap (x+y))))== (decide (0<y))):Value)from rfl) ?_)))))))))))))))))))))))))
 refine⟨?_,hS0⟩
 rfl
theorem el39:Elem Tryz.prog 39 3 1 8:=⟨nT,_,_,rfl,rfl,rfl,rfl,rfl⟩
theorem xV {G:Nat→Prop}{W w:World}{Rs:List HP}{vl:Value}{l:List Int}(hl:RdS W G vl l)(hS0:Sep G W Rs w):Ret Tryz.prog 44 [vl] w (fun r w'=> ∃(v:Value),r=(v:Value)∧Sep G W ((RowE (α:=Int) own 3 v l)::Rs) w'):=by
 have hls:_*8≤_:=hl.small
 refine zi (args:=[vl]) Tryz.func44 rfl rfl ?_
 refine za (R0 fun _=>st (aS (Iz) (zd (za (za (R0 fun _=>st (mV vl (st (Zm (v:=vl) nT rfl hl.sl (zd ?_))))))))))
 cases i:Zd vl
 refine zg rfl (zl (za (R0 fun _=>st (zY (k:=1) (parts':=[]) (c:=#[]) nT kT uR dc rfl kr ?_))))
 intro o p j
 refine st (mV vl ?_)
 have d:Sep G W ((RowE (α:=Int) own 3 (Iy p 0 0) ([]:List Int))::Rs) o:=Sep.blkRow (src:=own) (l:=([]:List Int)) (css:=[]) (hS0.new j) rfl trivial yqa
 have e:=d.r0
 have hr10s:_*8≤_:=e.2
 refine st (xY (src:=own) (bytes:=8) d el39 rfl rfl hl yqb rfl (hq':=fun _ _ h _ _=>Xn h) ?_)
 intro b q a
 have a:Sep G W ((RowE (α:=Int) own 3 b l)::Rs) q:=a
 have f:=a.r0
 have hr11s:_*8≤_:=f.2
 refine st (aS b (zd (zj (zK tY (show _=(b:Value)from rfl) ?_))))
 refine⟨b,rfl,a⟩
 have m:=Yp hl.sl i
 refine zh rfl (za (R0 fun _=>st (aS (Iz) (zd (zj (zK tY (show _=((Iz):Value)from rfl) ?_))))))
 have g:Sep G W ((RowE (α:=Int) own 3 (Iz) ([]:List Int))::Rs) w:=hS0.rowNil own 3
 have n:l=[]:=List.length_eq_zero_iff.1 m
 subst n
 refine⟨(Iz),rfl,g⟩
theorem el45:Elem Tryz.prog 45 99 2 32:=⟨tT,_,_,rfl,rfl,rfl,rfl,rfl⟩
theorem Xz {G:Nat→Prop}{W w:World}{Rs:List HP}{vl:Value}{l:List Cel}(hl:RdS W G vl l)(hS0:Sep G W Rs w):Ret Tryz.prog 43 [vl] w (fun r w'=> ∃(v:Value),r=(v:Value)∧Sep G W ((RowE (α:=Cel) (shr G W) 99 v l)::Rs) w'):=by
 have hls:_*32≤_:=hl.small
 refine zi (args:=[vl]) Tryz.func43 rfl rfl ?_
 refine za (R0 fun _=>st (aS (Iz) (zd (za (za (R0 fun _=>st (mV vl (st (Zm (v:=vl) tT rfl hl.sl (zd ?_))))))))))
 cases i:Zd vl
 refine zg rfl (zl (za (R0 fun _=>st (zY (k:=2) (parts':=[]) (c:=#[]) tT vR Tryz.zeroValue99 dc rfl kr ?_))))
 intro o p j
 refine st (mV vl ?_)
 have d:Sep G W ((RowE (α:=Cel) (shr G W) 99 (Iy p 0 0) ([]:List Cel))::Rs) o:=Sep.blkRow (src:=(shr G W)) (l:=([]:List Cel)) (css:=[]) (hS0.new j) rfl trivial yqa
 have e:=d.r0
 have hr10s:_*32≤_:=e.2
 refine st (xY (src:=(shr G W)) (bytes:=32) d el45 rfl rfl hl yqb rfl (hq':=fun _ _ h _ _=>h) ?_)
 intro b q a
 have a:Sep G W ((RowE (α:=Cel) (shr G W) 99 b l)::Rs) q:=a
 have f:=a.r0
 have hr11s:_*32≤_:=f.2
 refine st (aS b (zd (zj (zK uY (show _=(b:Value)from rfl) ?_))))
 refine⟨b,rfl,a⟩
 have m:=Yp hl.sl i
 refine zh rfl (za (R0 fun _=>st (aS (Iz) (zd (zj (zK uY (show _=((Iz):Value)from rfl) ?_))))))
 have g:Sep G W ((RowE (α:=Cel) (shr G W) 99 (Iz) ([]:List Cel))::Rs) w:=hS0.rowNil (shr G W) 99
 have n:l=[]:=List.length_eq_zero_iff.1 m
 subst n
 refine⟨(Iz),rfl,g⟩
theorem YI {G:Nat→Prop}{W w:World}{Rs:List HP}{vl:Value}{l:List Int}(hl:RdS W G vl l){x:Int}(hx:InR x)(hS0:Sep G W Rs w)(hasc:Asc l):Ret Tryz.prog 83 [vl,.int .i64 (x)] w (fun r w'=> ∃(ix:Nat),r=(.tuple #[.int .i64 ((ix:Nat):Int),.bool (decide (x∈l))]:Value)∧(ix≤l.length∧(∀q,q<ix→l.getD q 0<x)∧(∀q,ix≤q→q<l.length→x≤l.getD q 0))∧Sep G W Rs w'):=by
 have hls:_*8≤_:=hl.small
 refine zi (args:=[vl,Iv x]) Tryz.func83 rfl rfl ?_
 refine za (R0 fun _=>st (aS (Iv 0) (st (aS (.bool false) (zd (za (R0 fun _=>st (mV vl (st (zR (n:=l.length) nT rfl hl.sl (st (aS (Iw l.length) (zd (za (R0 fun _=>st (mV (Iw l.length) (st (aS (Iv 0) (st (aS (Iw l.length) (zd (za (zx (yq (fun mq σ L=> ∃(i:Nat) (j:Nat) (ρ:Env),mq=j-i∧σ=yi ρ [(0,vl),(1,Iv x),(6,Iw l.length),(7,Iw i),(8,Iw j)]∧(i≤j∧j≤l.length)∧(∀q,q<i→l.getD q 0<x)∧(∀q,j≤q→q<l.length→x≤l.getD q 0)∧Sep G W Rs L) ⟨0,l.length,_,rfl,sSf,⟨Nat.zero_le _,Nat.le_refl _⟩,(fun q h=>absurd h (Nat.not_lt_zero q)),(fun q h1 M=>absurd M om),hS0⟩ ?_))))))))))))))))))))))))
 rintro m2 σ3 w1 ⟨i,j,ρl1,rfl,rfl,hij,hlo,hhi,e⟩
 refine za (za (R0 fun _=>st (mV (Iw i) (st (mV (Iw j) (st (zJ (k:=.i64) (a:=((i:Nat):Int)) (b:=((j:Nat):Int)) rfl rfl (zd ?_))))))))
 cases m:decide (((i:Nat):Int)<((j:Nat):Int))
 have m:=fD m
 refine zg rfl (yr (yg (za (zz kr (st (mV (Iw i) (st (mV (Iw i) (st (mV (Iw l.length) (st (zJ (k:=.i64) (a:=((i:Nat):Int)) (b:=((l.length:Nat):Int)) rfl rfl (st (mV (.bool (decide (((i:Nat):Int)<((l.length:Nat):Int)))) ?_))))))))))))))
 cases g:decide (((i:Nat):Int)<((l.length:Nat):Int))
 have hg6r:=g
 have g:=fD g
 refine stx rfl rfl (stx rfl rfl (stx rfl rfl (stx rfl rfl (stx rfl rfl (stx rfl rfl (stx rfl rfl (stu rfl rfl (stu rfl rfl (stu rfl rfl (stu rfl rfl (stu rfl rfl (stu rfl rfl (stu rfl rfl (stu rfl rfl (stu rfl rfl (stx rfl rfl (st (zU (v:=.bool false) rfl rfl (st (aS (Iw i) (st (aS (.bool false) (zd (zj (zaE wR (show _=(Iw i:Value)from rfl) (show _=(.bool false:Value)from rfl) ?_)))))))))))))))))))))))))
 refine⟨i,?_,?_,e⟩
 have c:i=j:=by omega
 subst c
 rw[Vg hasc hij.2 hlo hhi]
 have hz:(decide (i<l.length)&&decide (l.getD i 0=x))=false:=by first|(rw[Bool.and_eq_true,decide_eq_true_eq,decide_eq_true_eq];omega)|(rw[Bool.and_eq_false_iff,decide_eq_false_iff_not,decide_eq_false_iff_not];omega)
 rw[hz]
 have c:i=j:=by omega
 subst c
 exact⟨hij.2,hlo,hhi⟩
 have g:=tD g
 refine sty rfl rfl (mV vl (sty rfl rfl (mV (Iw i) ?_)))
 have K:i<l.length:=by omega
 refine sty rfl rfl (zm (k:=1) (i:=i) nT kT rfl hl.sl rfl K ?_)
 have o:i<l.length:=bo
 obtain⟨p,D⟩:=hl.intD o
 have u:=e.cells p (hl.foot (ne_of_lt o))
 refine sty rfl rfl (lD (Iv ((l.getD i 0))) lT rfl (u.get (j:=0) rfl) (sty rfl rfl (mV (Iv x) (sty rfl rfl (yc (k:=.i64) (a:=(l.getD i 0)) (b:=x) rfl rfl (sty rfl rfl (mV (.bool (decide ((l.getD i 0)=x))) ?_)))))))
 cases f:decide ((l.getD i 0)=x)
 have hg11r:=f
 have f:=fD f
 refine sty rfl rfl (mV vl (sty rfl rfl (mV (Iw i) ?_)))
 have E:i<l.length:=bo
 refine sty rfl rfl (zm (k:=1) (i:=i) nT kT rfl hl.sl rfl E ?_)
 have z:=e.cells p (hl.foot (ne_of_lt o))
 refine sty rfl rfl (lD (Iv ((l.getD i 0))) lT rfl (z.get (j:=0) rfl) (sty rfl rfl (cL Tryz.call102 (zbL (x:=(l.getD i 0)) D e) ?_)))
 rintro _ w15 ⟨rfl,F⟩
 refine sty rfl rfl (mV (.bool false) (stx rfl rfl (stx rfl rfl (sty rfl rfl (zU (v:=.bool false) rfl rfl (sty rfl rfl (zU (v:=.bool false) rfl rfl (st (yj (v:=.bool false) rfl rfl (st (aS (Iw i) (st (aS (.bool false) (zd (zj (zaE wR (show _=(Iw i:Value)from rfl) (show _=(.bool false:Value)from rfl) ?_))))))))))))))))
 refine⟨i,?_,?_,F⟩
 have c:i=j:=by omega
 subst c
 rw[Vg hasc hij.2 hlo hhi]
 have hz:(decide (i<l.length)&&decide (l.getD i 0=x))=false:=by first|(rw[Bool.and_eq_true,decide_eq_true_eq,decide_eq_true_eq];omega)|(rw[Bool.and_eq_false_iff,decide_eq_false_iff_not,decide_eq_false_iff_not];omega)
 rw[hz]
 have c:i=j:=by omega
 subst c
 exact⟨hij.2,hlo,hhi⟩
 have f:=tD f
 refine stx rfl rfl (stx rfl rfl (stx rfl rfl (stx rfl rfl (stx rfl rfl (stx rfl rfl (stu rfl rfl (stu rfl rfl (stx rfl rfl (sty rfl rfl (yj (v:=.bool true) rfl rfl (st (yj (v:=.bool true) rfl rfl (st (aS (Iw i) (st (aS (.bool true) (zd (zj (zaE wR (show _=(Iw i:Value)from rfl) (show _=(.bool true:Value)from rfl) ?_)))))))))))))))))))
 refine⟨i,?_,?_,e⟩
 have c:i=j:=by omega
 subst c
 rw[Vg hasc hij.2 hlo hhi]
 have hz:(decide (i<l.length)&&decide (l.getD i 0=x))=true:=by first|(rw[Bool.and_eq_true,decide_eq_true_eq,decide_eq_true_eq];omega)|(rw[Bool.and_eq_false_iff,decide_eq_false_iff_not,decide_eq_false_iff_not];omega)
 rw[hz]
 have c:i=j:=by omega
 subst c
 exact⟨hij.2,hlo,hhi⟩
 have m:=tD m
 refine zh rfl (zl (zx (za (R0 fun _=>st (mV (Iw i) (st (mV (Iw j) ?_)))))))
 have H:InR ((i+j:Nat):Int):=bo
 refine st (yb (r:=((i+j:Nat):Int)) (k:=.i64) (a:=((i:Nat):Int)) (b:=((j:Nat):Int)) rfl rfl (by rw[show(((i:Nat):Int)+((j:Nat):Int):Int)=((i+j:Nat):Int)from bo];exact zM H) (st (JF (k:=.i64) (k2:=.u64) (a:=((i+j:Nat):Int)) (r:=((i+j:Nat):Int)) (by rw[mT];rfl) vY rfl (Kx ⟨by omega,by omega⟩) (st (zbI (k:=.u64) (yk:=.u64) (a:=((i+j:Nat):Int)) (b:=1) (r:=(((i+j)/2:Nat):Int)) rfl rfl (by decide) (by decide) (by show((i+j:Nat):Int)/(2:Int)^(1:Nat)=(((i+j)/2:Nat):Int);omega) (st (JF (k:=.u64) (k2:=.i64) (a:=(((i+j)/2:Nat):Int)) (r:=(((i+j)/2:Nat):Int)) (by rw[vY];rfl) mT rfl (zM (by omega)) (st (aS (Iv ((((i+j)/2:Nat):Int))) (zd (za (yx (by kernel_rfl) (fun _=>(st (mV vl (st (mV (Iv ((((i+j)/2:Nat):Int))) ?_)))))))))))))))))
 have I:(i+j)/2<l.length:=by omega
 refine st (zm (k:=1) (i:=(i+j)/2) nT kT rfl hl.sl rfl I ?_)
 have s:(i+j)/2<l.length:=bo
 obtain⟨A,B⟩:=hl.intD s
 have C:=e.cells A (hl.foot (ne_of_lt s))
 refine st (lD (Iv ((l.getD ((i+j)/2) 0))) lT rfl (C.get (j:=0) rfl) (st (mV (Iv x) (st (cL Tryz.call101 (zbJ (x:=(l.getD ((i+j)/2) 0)) (y:=x) B hx e) ?_)))))
 rintro _ w22 ⟨rfl,t⟩
 refine zd ?_
 cases d:decide ((l.getD ((i+j)/2) 0)<x)
 have d:=fD d
 refine zg rfl (R0 fun _=>st (mV (Iv ((((i+j)/2:Nat):Int))) (st (aS (Iv ((((i+j)/2:Nat):Int))) (zd ?_)))))
 exact⟨_,by omega,i,(i+j)/2,_,rfl,sSf,by omega,hlo,(bs_hi hasc om d),t⟩
 have d:=tD d
 refine zh rfl (R0 fun _=>st (mV (Iv ((((i+j)/2:Nat):Int))) ?_))
 have J:InR (((i+j)/2+1:Nat):Int):=bo
 refine st (yb (r:=(((i+j)/2+1:Nat):Int)) (k:=.i64) (a:=(((i+j)/2:Nat):Int)) (b:=1) rfl rfl (by rw[show((((i+j)/2:Nat):Int)+1:Int)=(((i+j)/2+1:Nat):Int)from bo];exact zM J) (st (aS (Iw ((i+j)/2+1)) (zd ?_))))
 exact⟨_,by omega,(i+j)/2+1,j,_,rfl,sSf,by omega,(bs_lo hasc om d),hhi,t⟩
end
section
set_option maxRecDepth 8000
open Go.Proofs Go.RowKit
theorem yqc {a b:Nat}(h:Nat.ble a b=true:=by rfl):a≤b:=Nat.le_of_ble_eq_true h
theorem WD {G:Nat→Prop}{W w:World}{Rs:List HP}{a:AskR}{da0:Value}(hda0:RdS W G da0 a.fld.moves){da1:Value}(hda1:RdS W G da1 a.cls)(oa:a.Ok)(hS0:Sep G W Rs w)(hno:0≤a.no∧a.no<a.cls.length):Ret Tryz.prog 63 [.agg (a.cells da0 da1).toArray] w (fun r w'=>r=(.pointer (some ⟨sb da1,so da1+a.no.toNat*2,none⟩):Value)∧Sep G W Rs w'):=by
 have hda0s:_*32≤_:=hda0.small
 have hda1s:_*32≤_:=hda1.small
 refine zi (args:=[.agg (a.cells da0 da1).toArray]) Tryz.func63 rfl rfl ?_
 refine za (R0 fun _=>st (zN (v:=.agg (a.cells da0 da1).toArray) rfl ?_))
 intro w3 b2 c
 have b:=hS0.new c
 refine st (aS (.pointer none) (zd (za (R0 fun _=>st (WL rfl (st (lD da1 wY rfl (zb (b.b0) rfl) (st (Qo rfl (st (lD (Iv (a.no)) lT rfl (zb (b.b0) rfl) ?_)))))))))))
 have hi5:a.no.toNat<a.cls.length:=bo
 refine st (zA (k:=2) (i:=a.no) tT vR rfl hda1.sl rfl ⟨by omega,by omega⟩ (st (aS (Ix (sb da1) (so da1+a.no.toNat*2)) (zd (zj (zK Tryz.results63 (show _=(Ix (sb da1) (so da1+a.no.toNat*2):Value)from rfl) ?_))))))
 refine⟨rfl,(b.s1_)⟩
theorem Ua {G:Nat→Prop}{W w:World}{Rs:List HP}{a:AskR}{da0:Value}(hda0:RdS W G da0 a.fld.moves){da1:Value}(hda1:RdS W G da1 a.cls)(oa:a.Ok)(hS0:Sep G W Rs w):Ret Tryz.prog 64 [.agg (a.cells da0 da1).toArray] w (fun r w'=>r=(.bool true:Value)∧Sep G W Rs w'):=by
 have hda0s:_*32≤_:=hda0.small
 have hda1s:_*32≤_:=hda1.small
 refine zi (args:=[.agg (a.cells da0 da1).toArray]) Tryz.func64 rfl rfl ?_
 refine za (R0 fun _=>st (zN (v:=.agg (a.cells da0 da1).toArray) rfl ?_))
 intro w3 b2 b
 refine st (aS (.bool false) (zd (za (R0 fun _=>st (aS (.bool true) (zd (zj (zK Tryz.results64 (show _=(.bool true:Value)from rfl) ?_))))))))
 refine⟨rfl,((hS0.new b).s1_)⟩
theorem KJ {G:Nat→Prop}{W w:World}{Rs:List HP}{a:AskR}{da0:Value}(hda0:RdS W G da0 a.fld.moves){da1:Value}(hda1:RdS W G da1 a.cls)(oa:a.Ok)(hS0:Sep G W Rs w)(hno:0≤a.no∧a.no<a.cls.length):Ret Tryz.prog 61 [.agg (a.cells da0 da1).toArray] w (fun r w'=>r=(.bool (xL a.fld a.cls (yo a.cls a.no) 1 a.arg):Value)∧Sep G W Rs w'):=by
 let n:=(a.cls.getD a.no.toNat default).n
 let ae:=IntKind.i64.wrap (n+a.arg)
 let ac:=decide (n<XF (n+a.arg))== decide (0<a.arg)
 let ab:=decide ((IntKind.i64.wrap (n+a.arg))<0)
 let ad:=a.fld.floor&&ab
 have hda0s:_*32≤_:=hda0.small
 have hda1s:_*32≤_:=hda1.small
 refine zi (args:=[.agg (a.cells da0 da1).toArray]) Tryz.func61 rfl rfl ?_
 refine za (R0 fun _=>st (zN (v:=.agg (a.cells da0 da1).toArray) rfl ?_))
 intro w3 b2 aa
 have E:=hS0.new aa
 refine st (aS (.bool false) (zd (za (R0 fun _=>st (zf (k:=7) mR nR rfl rfl (CellsAt.all (E.b0)) ?_)))))
 refine st (cL oR (WD (a:=a) hda0 hda1 oa E bo) ?_)
 rintro _ w5 ⟨rfl,e⟩
 refine st (zB (b:=sb da1) (o:=so da1+a.no.toNat*2) rfl (st (Zv rfl ?_)))
 have F:a.no.toNat<a.cls.length:=bo
 obtain⟨H,m,C⟩:=hda1.celD F
 have hsm9:((a.cls.getD a.no.toNat default).set).length*8≤140737488355328:=m.small
 have D:=e.cells H (hda1.foot (ne_of_lt F))
 refine st (lD (Iv n) lT rfl (D.get (j:=0) rfl) (st (aS (Iv n) (zd (za (zz kr (st (xm rfl (st (lD (Iv (a.arg)) lT rfl (zb (e.b0) rfl) (st (yc (k:=.i64) (a:=a.arg) (b:=0) rfl rfl (st (mV (.bool (decide (a.arg=0))) (stc (V:=Iv n) rfl rfl (fun I=>?_) ?_)))))))))))))))
 have hl12:=fD I
 exact mV (Iv n) ⟨rfl,rfl⟩
 refine stc (V:=Ix b2 6) rfl rfl (fun J=>?_) ?_
 have hl14:=fD J
 exact xm rfl ⟨rfl,rfl⟩
 refine stc (V:=Iv (a.arg)) rfl rfl (fun p=>?_) ?_
 have hl16:=fD p
 exact lD (Iv (a.arg)) lT (if_pos p) (zb (e.b0) rfl) ⟨rfl,rfl⟩
 cases c:decide (a.arg=0)
 have f:=c
 have c:=fD c
 refine sty rfl rfl (cL Tryz.call82 (D_sum (x:=(a.cls.getD a.no.toNat default).n) (y:=a.arg) C.n oa.arg e) ?_)
 rintro _ w18 ⟨rfl,i⟩
 refine st (zU (v:=.bool (ac)) rfl rfl (st (mV (.bool (ac)) (stc (V:=Ix b2 0) rfl rfl (fun K=>?_) ?_))))
 have L:=K
 try simp only[ze]at L
 exact Xb rfl ⟨rfl,rfl⟩
 refine stc (V:=Ix b2 2) rfl rfl (fun q=>?_) ?_
 have M:=q
 try simp only[ze]at M
 exact WG (if_pos q) ⟨rfl,rfl⟩
 refine stc (V:=.bool (a.fld.floor)) rfl rfl (fun s=>?_) ?_
 have N:=s
 try simp only[ze]at N
 exact lD (.bool (a.fld.floor)) pR (if_pos s) (zb (i.b0) rfl) ⟨rfl,rfl⟩
 refine stc (V:=.bool (a.fld.floor)) rfl rfl (fun t=>?_) ?_
 have O:=t
 try simp only[ze]at O
 exact zV (v:=.bool (a.fld.floor)) (if_pos t) ⟨rfl,rfl⟩
 refine yN (V:=Iv n) rfl rfl (fun u=>?_) ?_
 have P:=u.1
 try simp only[ze]at P
 have hl30:=u.2
 exact mV (Iv n) ⟨rfl,rfl⟩
 refine yN (V:=Ix b2 6) rfl rfl (fun z=>?_) ?_
 have Q:=z.1
 try simp only[ze]at Q
 have hl33:=z.2
 exact xm rfl ⟨rfl,rfl⟩
 refine yN (V:=Iv (a.arg)) rfl rfl (fun g=>?_) ?_
 have R:=g.1
 try simp only[ze]at R
 have hl36:=g.2
 exact lD (Iv (a.arg)) lT (if_pos ⟨g.1,g.2⟩) (zb (i.b0) rfl) ⟨rfl,rfl⟩
 refine yN (V:=Iv ae) rfl rfl (fun d=>?_) ?_
 have S:=d.1
 try simp only[ze]at S
 have hl39:=d.2
 exact yb (r:=IntKind.i64.wrap (n+a.arg)) (k:=.i64) (a:=(a.cls.getD a.no.toNat default).n) (b:=a.arg) (if_pos ⟨d.1,d.2⟩) (if_pos ⟨d.1,d.2⟩) rfl ⟨rfl,rfl⟩
 refine yN (V:=.bool ab) rfl rfl (fun h=>?_) ?_
 have T:=h.1
 try simp only[ze]at T
 have hl42:=h.2
 exact zJ (k:=.i64) (a:=IntKind.i64.wrap (n+a.arg)) (b:=0) (if_pos ⟨h.1,h.2⟩) rfl ⟨rfl,rfl⟩
 refine stc (V:=.bool ad) rfl rfl (fun l=>?_) ?_
 have U:=l
 try simp only[ze]at U
 exact zC (b:=a.fld.floor) (b':=decide (ae<0)) (if_pos l) (fun hbp=>(if_pos ⟨l,hbp⟩)) ⟨rfl,rfl⟩
 refine stc (V:=.bool (!ad)) rfl rfl (fun A=>?_) ?_
 have X:=A
 try simp only[ze]at X
 exact yF (a:=a.fld.floor&&ab) (if_pos A) ⟨rfl,rfl⟩
 refine st (zC (b:=ac) (b':= !ad) rfl (fun hbp=>(if_pos hbp)) (st (aS (.bool (ac&&(!ad))) (zd (zj (zK kA (show _=(.bool (ac&&(!ad)):Value)from rfl) ?_))))))
 refine⟨?_,(i.s1_)⟩
 unfold xL
 rw[if_pos rfl,f]
 rfl
 have f:=c
 have c:=tD c
 refine stx rfl rfl (st (yj (v:=.bool true) rfl rfl (st (mV (.bool true) (sty rfl rfl (Xb rfl (sty rfl rfl (WG rfl (sty rfl rfl (lD (.bool (a.fld.floor)) pR rfl (zb (e.b0) rfl) (sty rfl rfl (mV (.bool (a.fld.floor)) (stc (V:=Iv n) rfl rfl (fun hb48=>?_) ?_)))))))))))))
 exact mV (Iv n) ⟨rfl,rfl⟩
 refine stc (V:=Ix b2 6) rfl rfl (fun hb50=>?_) ?_
 exact xm rfl ⟨rfl,rfl⟩
 refine stc (V:=Iv (a.arg)) rfl rfl (fun Y=>?_) ?_
 exact lD (Iv (a.arg)) lT (if_pos Y) (zb (e.b0) rfl) ⟨rfl,rfl⟩
 refine stc (V:=Iv ae) rfl rfl (fun B=>?_) ?_
 exact yb (r:=IntKind.i64.wrap (n+a.arg)) (k:=.i64) (a:=(a.cls.getD a.no.toNat default).n) (b:=a.arg) (if_pos B) (if_pos B) rfl ⟨rfl,rfl⟩
 refine stc (V:=.bool ab) rfl rfl (fun Z=>?_) ?_
 exact zJ (k:=.i64) (a:=IntKind.i64.wrap (n+a.arg)) (b:=0) (if_pos Z) rfl ⟨rfl,rfl⟩
 refine sty rfl rfl (zC (b:=a.fld.floor) (b':=decide (ae<0)) rfl (fun hbp=>(if_pos hbp)) (sty rfl rfl (yF (a:=a.fld.floor&&ab) rfl (st (yj (v:=.bool (!ad)) rfl rfl (st (aS (.bool (!ad)) (zd (zj (zK kA (show _=(.bool (!ad):Value)from rfl) ?_))))))))))
 refine⟨?_,(e.s1_)⟩
 unfold xL
 rw[if_pos rfl,f]
 rfl
theorem Jx {G:Nat→Prop}{W w:World}{Rs:List HP}{a:AskR}{da0:Value}(hda0:RdS W G da0 a.fld.moves){da1:Value}(hda1:RdS W G da1 a.cls)(oa:a.Ok)(hS0:Sep G W Rs w)(hno:0≤a.no∧a.no<a.cls.length)(hasc:Asc (yo a.cls a.no).set):Ret Tryz.prog 66 [.agg (a.cells da0 da1).toArray] w (fun r w'=>r=(.bool (xL a.fld a.cls (yo a.cls a.no) 3 a.arg):Value)∧Sep G W Rs w'):=by
 let aE:=zI W (sb da1) (so da1+a.no.toNat*2+1)
 have hda0s:_*32≤_:=hda0.small
 have hda1s:_*32≤_:=hda1.small
 refine zi (args:=[.agg (a.cells da0 da1).toArray]) Tryz.func66 rfl rfl ?_
 refine za (R0 fun _=>st (zN (v:=.agg (a.cells da0 da1).toArray) rfl ?_))
 intro w3 b2 aD
 refine st (aS (.bool false) (zd (za ?_)))
 refine WD4 ((fun L=>WF [fun vals M=>Sep G W (L::Rs) M,fun vals M=>(vals 1=(Ix (sb da1) (so da1+a.no.toNat*2):Value))∧Sep G W (L::Rs) M,fun vals M=> ∃(c:Nat),(vals 1=(Ix (sb da1) (so da1+a.no.toNat*2):Value))∧(vals 7=(.tuple #[Iw c,.bool (decide (a.arg∈((a.cls.getD a.no.toNat default).set)))]:Value))∧(c≤((a.cls.getD a.no.toNat default).set).length∧(∀q,q<c→((a.cls.getD a.no.toNat default).set).getD q 0<a.arg)∧(∀q,c≤q→q<((a.cls.getD a.no.toNat default).set).length→a.arg≤((a.cls.getD a.no.toNat default).set).getD q 0))∧Sep G W (L::Rs) M]) (Blk b2 (a.cells da0 da1).toArray 112)) (AF [Vl 0 (.agg (a.cells da0 da1).toArray),fun _=>True,Vl 2 (Ix (sb da1) (so da1+a.no.toNat*2)),Vl 3 (Ix (sb da1) (so da1+a.no.toNat*2+1)),Vl 4 (aE),Vl 5 (Ix b2 6),Vl 6 (Iv (a.arg)),fun _=>True,fun vals=> ∀(c:Nat),vals 7=(.tuple #[Iw c,.bool (decide (a.arg∈((a.cls.getD a.no.toNat default).set)))]:Value)→vals 8=(.tuple #[Iw c,.bool (decide (a.arg∈((a.cls.getD a.no.toNat default).set)))]:Value),fun vals=> ∀(c:Nat),vals 7=(.tuple #[Iw c,.bool (decide (a.arg∈((a.cls.getD a.no.toNat default).set)))]:Value)→vals 9=(Iw c:Value),Vl 10 (.bool (decide (a.arg∈((a.cls.getD a.no.toNat default).set)))),fun vals=> ∀(c:Nat),vals 7=(.tuple #[Iw c,.bool (decide (a.arg∈((a.cls.getD a.no.toNat default).set)))]:Value)→vals 11=(Iw c:Value),Vl 12 (.bool (decide (a.arg∈((a.cls.getD a.no.toNat default).set))))]) [[],[0],[0,1],[0,1,2],(rg 4),[],[5],(rg 7),(rg 8),(rg 9),(rg 9),(rg 10),(rg 12)] [1,7] [(0,0),(0,0),(1,1),(1,1),(1,1),(0,1),(0,1),(1,1),(2,2),(2,2),(2,2),(2,2),(2,2)] (hS0.new aD) ⟨ob1 0 fun _ _ (U:Sep _ _ _ _) _=>obl rfl (zf (k:=7) mR nR rfl rfl (CellsAt.all (U.b0)) dR),?_,?_,fun _ _ _ _ _ _ X=>obl rfl (xx (X 2 dc) dR),?_,fun _ _ _ _ _ _ _=>obl rfl (xm rfl dR),?_,?_,?_,?_,?_,?_,fun _ _ _ _ _ _ Y=>obl rfl (ya (v:=.bool (decide (a.arg∈((a.cls.getD a.no.toNat default).set)))) (Y 10 dc) dR),trivial⟩ ?_ (hlocA:=xb ⟨dA,dT,dA,dA,dA,dA,dA,dT,fun vals m p h=>fun c e=>(p 8 (.inl rfl)).trans (h c ((p 7 (.inr dc)).symm.trans e)),fun vals m p h=>fun c e=>(p 9 (.inl rfl)).trans (h c ((p 7 (.inr dc)).symm.trans e)),dA,fun vals m p h=>fun c e=>(p 11 (.inl rfl)).trans (h c ((p 7 (.inr dc)).symm.trans e)),dA,trivial⟩)
 refine ob1 0 fun vals _ (aq:Sep _ _ _ _) ar=>(obl rfl ?_)
 refine(zG (f:=63) (vals:=[.agg (a.cells da0 da1).toArray]) (cap:=[]) rfl (yK ⟨(ar 0 dc),trivial⟩) oR (WD (a:=a) hda0 hda1 oa aq bo) ?_)
 rintro _ w20 ⟨rfl,au⟩
 exact fun m p u=>⟨(zv p au),trivial⟩
 refine ob1 1 fun _ _ Z _=>?_
 obtain⟨g,hS132⟩:=Z
 exact obl rfl (zB (b:=sb da1) (o:=so da1+a.no.toNat*2) g dR)
 refine ob1 1 fun _ _ aa ab=>?_
 obtain⟨g,ac⟩:=aa
 refine obl rfl ?_
 have E:a.no.toNat<a.cls.length:=bo
 obtain⟨N,D,hoke148⟩:=hda1.celD E
 have hsm150:((a.cls.getD a.no.toNat default).set).length*8≤140737488355328:=D.small
 have O:=ac.cells N (hda1.foot (ne_of_lt E))
 exact lD aE qR (ab 3 dc) (O.get (j:=1) rfl) dR
 refine fun B _ _ av aw F H=>?_
 have hkk:=xA av aw
 rcases hkk with rfl|rfl
 have ad:Sep _ _ _ _:=F
 exact obl rfl (lD (Iv (a.arg)) lT (H 5 dc) (zb (ad.b0) rfl) dR)
 obtain⟨g,ae⟩:=F
 exact obl rfl (lD (Iv (a.arg)) lT (H 5 dc) (zb (ae.b0) rfl) dR)
 refine ob1 1 fun vals _ ax P=>?_
 obtain⟨g,Q⟩:=ax
 refine obl rfl ?_
 have R:a.no.toNat<a.cls.length:=bo
 obtain⟨af,A,hoke72⟩:=hda1.celD R
 have hsm74:((a.cls.getD a.no.toNat default).set).length*8≤140737488355328:=A.small
 have hcw75:=Q.cells af (hda1.foot (ne_of_lt R))
 refine(zG (f:=83) (vals:=[aE,Iv (a.arg)]) (cap:=[]) rfl (yK ⟨(P 4 dc),(P 6 dc),trivial⟩) Tryz.call83 (YI (l:=(a.cls.getD a.no.toNat default).set) (vl:=aE) (x:=a.arg) A oa.arg Q (hasc)) ?_)
 rintro _ w78 ⟨c,rfl,s,ay⟩
 exact fun m p u=>⟨(exiA c (zv ((u 1 dc).trans g) (zv p (zv s ay)))),trivial⟩
 refine ob1 2 fun _ _ ag _=>?_
 obtain⟨c,g,d,s,hS174⟩:=ag
 refine obl rfl (zV (v:=.tuple #[Iw c,.bool (decide (a.arg∈((a.cls.getD a.no.toNat default).set)))]) d (fun m p u=>⟨rfl,?_⟩))
 intro I e
 rw[u 7 (by decide)]at e;cases d.symm.trans e
 exact p
 refine ob1 2 fun vals _ ah ai=>?_
 obtain⟨c,g,d,s,hS181⟩:=ah
 have az:vals 8=(.tuple #[Iw c,.bool (decide (a.arg∈((a.cls.getD a.no.toNat default).set)))]:Value):=ai 8 dc c d
 refine obl rfl (zk (vs:=[Iw c,.bool (decide (a.arg∈((a.cls.getD a.no.toNat default).set)))]) (i:=0) (v:=Iw c) az rfl (fun m p u=>⟨rfl,?_⟩))
 intro I e
 rw[u 7 (by decide)]at e;cases d.symm.trans e
 exact p
 refine ob1 2 fun vals _ aj ak=>?_
 obtain⟨c,g,d,s,hS189⟩:=aj
 have aA:vals 8=(.tuple #[Iw c,.bool (decide (a.arg∈((a.cls.getD a.no.toNat default).set)))]:Value):=ak 8 dc c d
 exact obl rfl (zk (vs:=[Iw c,.bool (decide (a.arg∈((a.cls.getD a.no.toNat default).set)))]) (i:=1) (v:=.bool (decide (a.arg∈((a.cls.getD a.no.toNat default).set)))) aA rfl dR)
 refine ob1 2 fun vals _ al am=>?_
 obtain⟨c,g,d,s,hS197⟩:=al
 have aB:vals 9=(Iw c:Value):=am 9 dc c d
 refine obl rfl (ya (v:=Iw c) aB (fun m p u=>⟨rfl,?_⟩))
 intro I e
 rw[u 7 (by decide)]at e;cases d.symm.trans e
 exact p
 intro vals w206 an ao
 obtain⟨c,g,d,s,C⟩:=an
 have aC:=ao 12 dc
 refine zZ (kv:=[(0,.agg (a.cells da0 da1).toArray),(1,Ix b2 0),(2,.bool false),(4,.bool (decide (a.arg∈((a.cls.getD a.no.toNat default).set))))]) ⟨rfl,rfl,rfl,(by exact aC),trivial⟩ (fun ρw206=>(zd (za (zz kr (st (mV (.bool (decide (a.arg∈((a.cls.getD a.no.toNat default).set)))) (st (mV (.bool (decide (a.arg∈((a.cls.getD a.no.toNat default).set)))) (stc (V:=.agg (a.cells da0 da1).toArray) rfl rfl (fun ap=>?_) ?_)))))))))
 have hl212:=fD ap
 exact zf (k:=7) mR nR rfl rfl (CellsAt.all (C.b0)) ⟨rfl,rfl⟩
 cases t:decide (a.arg∈((a.cls.getD a.no.toNat default).set))
 have y:=t
 have t:=fD t
 refine sty rfl rfl (cL oR (WD (a:=a) hda0 hda1 oa C bo) ?_)
 rintro _ w214 ⟨rfl,J⟩
 refine sty rfl rfl (zB (b:=sb da1) (o:=so da1+a.no.toNat*2) rfl (sty rfl rfl (xx rfl ?_)))
 have K:a.no.toNat<a.cls.length:=bo
 obtain⟨S,z,hoke216⟩:=hda1.celD K
 have hsm218:((a.cls.getD a.no.toNat default).set).length*8≤140737488355328:=z.small
 have T:=J.cells S (hda1.foot (ne_of_lt K))
 refine sty rfl rfl (lD aE qR rfl (T.get (j:=1) rfl) (sty rfl rfl (zR (n:=((a.cls.getD a.no.toNat default).set).length) nT rfl z.sl (sty rfl rfl (zJ (k:=.i64) (a:=((((a.cls.getD a.no.toNat default).set).length:Nat):Int)) (b:=64) rfl rfl (st (zU (v:=.bool (decide (((((a.cls.getD a.no.toNat default).set).length:Nat):Int)<64))) rfl rfl (st (aS (.bool (decide (((((a.cls.getD a.no.toNat default).set).length:Nat):Int)<64))) (zd (zj (zK lA (show _=(.bool (decide (((((a.cls.getD a.no.toNat default).set).length:Nat):Int)<64)):Value)from rfl) ?_))))))))))))
 refine⟨?_,(J.s1_)⟩
 unfold xL
 rw[if_neg (by decide),if_pos rfl,show decide (a.arg∈(yo a.cls a.no).set)=_ from y]
 rfl
 have y:=t
 have t:=tD t
 refine stx rfl rfl (stx rfl rfl (stx rfl rfl (stx rfl rfl (stx rfl rfl (stx rfl rfl (st (yj (v:=.bool true) rfl rfl (st (aS (.bool true) (zd (zj (zK lA (show _=(.bool true:Value)from rfl) ?_))))))))))))
 refine⟨?_,(C.s1_)⟩
 unfold xL
 rw[if_neg (by decide),if_pos rfl,show decide (a.arg∈(yo a.cls a.no).set)=_ from y]
 rfl
theorem Qv {G:Nat→Prop}{W w:World}{Rs:List HP}{a:AskR}{da0:Value}(hda0:RdS W G da0 a.fld.moves){da1:Value}(hda1:RdS W G da1 a.cls)(oa:a.Ok)(hS0:Sep G W Rs w)(hno:0≤a.no∧a.no<a.cls.length)(hmv:0≤a.arg∧a.arg<a.fld.moves.length)(hnd:(Ym a.fld a.arg).need<0∨(Ym a.fld a.arg).need<a.cls.length):Ret Tryz.prog 69 [.agg (a.cells da0 da1).toArray] w (fun r w'=>r=(.bool (xL a.fld a.cls (yo a.cls a.no) 5 a.arg):Value)∧Sep G W Rs w'):=by
 let n:=(a.fld.moves.getD a.arg.toNat default).cells
 have hda0s:_*32≤_:=hda0.small
 have hda1s:_*32≤_:=hda1.small
 have hnd1:(a.fld.moves.getD a.arg.toNat default).need<0∨(a.fld.moves.getD a.arg.toNat default).need<a.cls.length:=hnd
 refine zi (args:=[.agg (a.cells da0 da1).toArray]) Tryz.func69 rfl rfl ?_
 refine za (R0 fun _=>st (zN (v:=.agg (a.cells da0 da1).toArray) rfl ?_))
 intro w3 b2 ba
 have L:=hS0.new ba
 refine st (aS (.bool false) (zd (za (R0 fun _=>st (Xb rfl (st (yL rfl (st (lD da0 Tryz.isAgg108 rfl (zb (L.b0) rfl) (st (xm rfl (st (lD (Iv (a.arg)) lT rfl (zb (L.b0) rfl) ?_)))))))))))))
 have hi5:a.arg.toNat<a.fld.moves.length:=bo
 refine st (zA (k:=4) (i:=a.arg) Tryz.underlying108 kY rfl hda0.sl rfl ⟨by omega,by omega⟩ ?_)
 have aN:a.arg.toNat<a.fld.moves.length:=bo
 obtain⟨aP,hoke6⟩:=hda0.mvD aN
 have aQ:=L.cells aP (hda0.foot (ne_of_lt aN))
 refine st (zf (k:=4) Tryz.isAgg136 kY rfl rfl aQ (st (zt Tryz.zeroValue136 ?_)))
 intro w11 D bb
 have ab:=L.new bb
 refine stn (zq (v:=.agg n.toArray) (c':=n.toArray) kY rfl rfl (ab.b0) (ye ⟨rfl,rfl,rfl,rfl,trivial⟩) yqc rfl ?_)
 intro w13 aR
 refine zd (za ?_)
 refine WD4 ((fun TT aO=>WF [fun vals wq=>Sep G W (aO::TT) wq,fun vals wq=>(vals 1=(Ix (sb da1) (so da1+a.no.toNat*2):Value))∧Sep G W (aO::TT) wq]) ((Blk b2 (a.cells da0 da1).toArray 112)::Rs) (Blk D n.toArray 136)) (AF [Vl 0 (.agg (a.cells da0 da1).toArray),fun _=>True,Vl 2 (Ix (sb da1) (so da1+a.no.toNat*2)),Vl 3 (Ix (sb da1) (so da1+a.no.toNat*2)),Vl 4 (Iv ((a.cls.getD a.no.toNat default).n)),Vl 5 (Ix D 0),Vl 6 (Iv ((a.fld.moves.getD a.arg.toNat default).frm)),Vl 7 (.bool (decide (((a.cls.getD a.no.toNat default).n)=((a.fld.moves.getD a.arg.toNat default).frm)))),Vl 8 (.bool (decide (((a.cls.getD a.no.toNat default).n)=((a.fld.moves.getD a.arg.toNat default).frm)))),Vl 9 (if(decide (((a.cls.getD a.no.toNat default).n)=((a.fld.moves.getD a.arg.toNat default).frm)))=true then Ix D 2 else undef),Vl 10 (if(decide (((a.cls.getD a.no.toNat default).n)=((a.fld.moves.getD a.arg.toNat default).frm)))=true then Iv ((a.fld.moves.getD a.arg.toNat default).need)else undef),Vl 11 (if(decide (((a.cls.getD a.no.toNat default).n)=((a.fld.moves.getD a.arg.toNat default).frm)))=true then .bool (decide (((a.fld.moves.getD a.arg.toNat default).need)<0))else undef),Vl 12 (if(decide (((a.cls.getD a.no.toNat default).n)=((a.fld.moves.getD a.arg.toNat default).frm)))=true then .bool (decide (((a.fld.moves.getD a.arg.toNat default).need)<0))else undef),Vl 13 (if((decide (((a.cls.getD a.no.toNat default).n)=((a.fld.moves.getD a.arg.toNat default).frm)))=true)∧(decide (((a.fld.moves.getD a.arg.toNat default).need)<0))=false then Ix b2 4 else undef),Vl 14 (if((decide (((a.cls.getD a.no.toNat default).n)=((a.fld.moves.getD a.arg.toNat default).frm)))=true)∧(decide (((a.fld.moves.getD a.arg.toNat default).need)<0))=false then da1 else undef),Vl 15 (if((decide (((a.cls.getD a.no.toNat default).n)=((a.fld.moves.getD a.arg.toNat default).frm)))=true)∧(decide (((a.fld.moves.getD a.arg.toNat default).need)<0))=false then Ix D 2 else undef),Vl 16 (if((decide (((a.cls.getD a.no.toNat default).n)=((a.fld.moves.getD a.arg.toNat default).frm)))=true)∧(decide (((a.fld.moves.getD a.arg.toNat default).need)<0))=false then Iv ((a.fld.moves.getD a.arg.toNat default).need)else undef),Vl 17 (if((decide (((a.cls.getD a.no.toNat default).n)=((a.fld.moves.getD a.arg.toNat default).frm)))=true)∧(decide (((a.fld.moves.getD a.arg.toNat default).need)<0))=false then Ix (sb da1) (so da1+(((a.fld.moves.getD a.arg.toNat default).need).toNat)*2)else undef),Vl 18 (if((decide (((a.cls.getD a.no.toNat default).n)=((a.fld.moves.getD a.arg.toNat default).frm)))=true)∧(decide (((a.fld.moves.getD a.arg.toNat default).need)<0))=false then Ix (sb da1) (so da1+(((a.fld.moves.getD a.arg.toNat default).need).toNat)*2)else undef),Vl 19 (if((decide (((a.cls.getD a.no.toNat default).n)=((a.fld.moves.getD a.arg.toNat default).frm)))=true)∧(decide (((a.fld.moves.getD a.arg.toNat default).need)<0))=false then Iv ((a.cls.getD (((a.fld.moves.getD a.arg.toNat default).need).toNat) default).n)else undef),Vl 20 (if((decide (((a.cls.getD a.no.toNat default).n)=((a.fld.moves.getD a.arg.toNat default).frm)))=true)∧(decide (((a.fld.moves.getD a.arg.toNat default).need)<0))=false then Ix D 3 else undef),Vl 21 (if((decide (((a.cls.getD a.no.toNat default).n)=((a.fld.moves.getD a.arg.toNat default).frm)))=true)∧(decide (((a.fld.moves.getD a.arg.toNat default).need)<0))=false then Iv ((a.fld.moves.getD a.arg.toNat default).least)else undef),Vl 22 (if((decide (((a.cls.getD a.no.toNat default).n)=((a.fld.moves.getD a.arg.toNat default).frm)))=true)∧(decide (((a.fld.moves.getD a.arg.toNat default).need)<0))=false then .bool (decide (((a.fld.moves.getD a.arg.toNat default).least)≤((a.cls.getD (((a.fld.moves.getD a.arg.toNat default).need).toNat) default).n)))else undef),Vl 23 (if(decide (((a.cls.getD a.no.toNat default).n)=((a.fld.moves.getD a.arg.toNat default).frm)))=true then .bool ((decide (((a.fld.moves.getD a.arg.toNat default).need)<0))||(decide (((a.fld.moves.getD a.arg.toNat default).least)≤((a.cls.getD (((a.fld.moves.getD a.arg.toNat default).need).toNat) default).n))))else undef),Vl 24 (.bool ((decide (((a.cls.getD a.no.toNat default).n)=((a.fld.moves.getD a.arg.toNat default).frm)))&&((decide (((a.fld.moves.getD a.arg.toNat default).need)<0))||(decide (((a.fld.moves.getD a.arg.toNat default).least)≤((a.cls.getD (((a.fld.moves.getD a.arg.toNat default).need).toNat) default).n)))))),Vl 25 (.bool ((decide (((a.cls.getD a.no.toNat default).n)=((a.fld.moves.getD a.arg.toNat default).frm)))&&((decide (((a.fld.moves.getD a.arg.toNat default).need)<0))||(decide (((a.fld.moves.getD a.arg.toNat default).least)≤((a.cls.getD (((a.fld.moves.getD a.arg.toNat default).need).toNat) default).n))))))]) [[],[0],[0,1],[0,1,2],(rg 4),[],[5],(rg 7),(rg 8),(rg 9),(rg 10),(rg 11),(rg 12),(rg 13),(rg 14),(rg 13),[0,1,2,3,4,5,6,7,8,9,10,11,12,15],(rg 17),(rg 18),(rg 19),(rg 13),[0,1,2,3,4,5,6,7,8,9,10,11,12,20],(rg 22),(rg 23),(rg 24),(rg 25)] [1] [(0,0),(0,0),(1,1),(1,1),(1,1),(0,1),(0,1),(1,1),(1,1),(1,1),(1,1),(1,1),(1,1),(1,1),(1,1),(1,1),(1,1),(1,1),(1,1),(1,1),(1,1),(1,1),(1,1),(1,1),(1,1),(1,1)] (ab.pt0 aR) ⟨ob1 0 fun _ _ (ag:Sep _ _ _ _) _=>obl rfl (zf (k:=7) mR nR rfl rfl (CellsAt.all (ag.b1)) dR),?_,?_,fun _ _ _ _ _ _ ah=>obl rfl (Zv (ah 2 dc) dR),?_,fun _ _ _ _ _ _ _=>obl rfl (UW rfl dR),?_,?_,fun _ _ _ _ _ _ ai=>obl rfl (zV (v:=.bool (decide (((a.cls.getD a.no.toNat default).n)=((a.fld.moves.getD a.arg.toNat default).frm)))) (ai 7 dc) dR),?_,?_,?_,?_,?_,?_,?_,?_,?_,?_,?_,?_,?_,?_,?_,?_,fun _ _ _ _ _ _ aj=>obl rfl (ya (v:=.bool ((decide (((a.cls.getD a.no.toNat default).n)=((a.fld.moves.getD a.arg.toNat default).frm)))&&((decide (((a.fld.moves.getD a.arg.toNat default).need)<0))||(decide (((a.fld.moves.getD a.arg.toNat default).least)≤((a.cls.getD (((a.fld.moves.getD a.arg.toNat default).need).toNat) default).n)))))) (aj 24 dc) dR),trivial⟩ ?_
 refine ob1 0 fun vals _ (aU:Sep _ _ _ _) aV=>(obl rfl ?_)
 refine(zG (f:=63) (vals:=[.agg (a.cells da0 da1).toArray]) (cap:=[]) rfl (yK ⟨(aV 0 dc),trivial⟩) oR (WD (a:=a) hda0 hda1 oa aU bo) ?_)
 rintro _ w31 ⟨rfl,aW⟩
 exact fun c d hv'=>⟨(zv d aW),trivial⟩
 refine ob1 1 fun _ _ ak _=>?_
 obtain⟨e,hS290⟩:=ak
 exact obl rfl (zB (b:=sb da1) (o:=so da1+a.no.toNat*2) e dR)
 refine ob1 1 fun _ _ al am=>?_
 obtain⟨e,an⟩:=al
 refine obl rfl ?_
 have M:a.no.toNat<a.cls.length:=bo
 obtain⟨ac,J,hoke306⟩:=hda1.celD M
 have hsm308:((a.cls.getD a.no.toNat default).set).length*8≤140737488355328:=J.small
 have ad:=an.cells ac (hda1.foot (ne_of_lt M))
 exact lD (Iv ((a.cls.getD a.no.toNat default).n)) lT (am 3 dc) (ad.get (j:=0) rfl) dR
 refine fun E _ _ aX aY N O=>?_
 have hkk:=xA aX aY
 rcases hkk with rfl|rfl
 have ao:Sep _ _ _ _:=N
 exact obl rfl (lD (Iv ((a.fld.moves.getD a.arg.toNat default).frm)) lT (O 5 dc) (zb (ao.b0) rfl) dR)
 obtain⟨e,ap⟩:=N
 exact obl rfl (lD (Iv ((a.fld.moves.getD a.arg.toNat default).frm)) lT (O 5 dc) (zb (ap.b0) rfl) dR)
 refine ob1 1 fun _ _ aq P=>?_
 obtain⟨e,hS332⟩:=aq
 exact obl rfl (yc (k:=.i64) (a:=(a.cls.getD a.no.toNat default).n) (b:=(a.fld.moves.getD a.arg.toNat default).frm) (P 4 dc) (P 6 dc) dR)
 refine fun _ _ _ _ _ _ ar=>(zX rfl rfl (ar 8 dc) (fun C=>?_) (fun C=>fun c d _=>⟨trivial,d.trans (if_neg C).symm⟩))
 have hl350:=tD C
 exact Yr rfl (fun c d _=>⟨rfl,d.trans (if_pos C).symm⟩)
 refine ob1 1 fun _ _ au Q=>?_
 obtain⟨e,av⟩:=au
 refine zX rfl rfl (Q 8 dc) (fun u=>?_) (fun u=>fun c d _=>⟨trivial,d.trans (if_neg u).symm⟩)
 have hl361:=tD u
 exact lD (Iv ((a.fld.moves.getD a.arg.toNat default).need)) lT (Eq.trans (Q 9 dc) (if_pos u)) (zb (av.b0) rfl) (fun c d _=>⟨rfl,d.trans (if_pos u).symm⟩)
 refine ob1 1 fun _ _ aw R=>?_
 obtain⟨e,hS368⟩:=aw
 refine zX rfl rfl (R 8 dc) (fun x=>?_) (fun x=>fun c d _=>⟨trivial,d.trans (if_neg x).symm⟩)
 have hl372:=tD x
 exact zJ (k:=.i64) (a:=(a.fld.moves.getD a.arg.toNat default).need) (b:=0) (Eq.trans (R 10 dc) (if_pos x)) rfl (fun c d _=>⟨rfl,d.trans (if_pos x).symm⟩)
 refine fun _ _ _ _ _ _ S=>(zX rfl rfl (S 8 dc) (fun y=>?_) (fun y=>fun c d _=>⟨trivial,d.trans (if_neg y).symm⟩))
 have hl382:=tD y
 exact zV (v:=.bool (decide (((a.fld.moves.getD a.arg.toNat default).need)<0))) (Eq.trans (S 11 dc) (if_pos y)) (fun c d _=>⟨rfl,d.trans (if_pos y).symm⟩)
 refine fun _ _ _ _ _ _ ax=>(Zn rfl rfl (ax 12 dc) (fun z=>?_) (fun z=>fun c d _=>⟨trivial,d.trans (if_neg z).symm⟩))
 have hl391:=tD z.1
 have hl392:=fD z.2
 exact WL rfl (fun c d _=>⟨rfl,d.trans (if_pos z).symm⟩)
 refine ob1 1 fun _ _ ay T=>?_
 obtain⟨e,az⟩:=ay
 refine Zn rfl rfl (T 12 dc) (fun l=>?_) (fun l=>fun c d _=>⟨trivial,d.trans (if_neg l).symm⟩)
 have hl403:=tD l.1
 have hl404:=fD l.2
 exact lD da1 wY (Eq.trans (T 13 dc) (if_pos ⟨l.1,l.2⟩)) (zb (az.b1) rfl) (fun c d _=>⟨rfl,d.trans (if_pos l).symm⟩)
 refine fun _ _ _ _ _ _ aA=>(Zn rfl rfl (aA 12 dc) (fun A=>?_) (fun A=>fun c d _=>⟨trivial,d.trans (if_neg A).symm⟩))
 have hl413:=tD A.1
 have hl414:=fD A.2
 exact Yr rfl (fun c d _=>⟨rfl,d.trans (if_pos A).symm⟩)
 refine ob1 1 fun _ _ aB U=>?_
 obtain⟨e,aC⟩:=aB
 refine Zn rfl rfl (U 12 dc) (fun m=>?_) (fun m=>fun c d _=>⟨trivial,d.trans (if_neg m).symm⟩)
 have hl425:=tD m.1
 have hl426:=fD m.2
 exact lD (Iv ((a.fld.moves.getD a.arg.toNat default).need)) lT (Eq.trans (U 15 dc) (if_pos ⟨m.1,m.2⟩)) (zb (aC.b0) rfl) (fun c d _=>⟨rfl,d.trans (if_pos m).symm⟩)
 refine ob1 1 fun _ _ aD F=>?_
 obtain⟨e,hS433⟩:=aD
 refine Zn rfl rfl (F 12 dc) (fun g=>?_) (fun g=>fun c d _=>⟨trivial,d.trans (if_neg g).symm⟩)
 have hl438:=tD g.1
 have hl439:=fD g.2
 have hi440:((a.fld.moves.getD a.arg.toNat default).need).toNat<a.cls.length:=bo
 exact zA (k:=2) (i:=(a.fld.moves.getD a.arg.toNat default).need) tT vR (Eq.trans (F 14 dc) (if_pos ⟨g.1,g.2⟩)) hda1.sl (Eq.trans (F 16 dc) (if_pos ⟨g.1,g.2⟩)) ⟨by omega,by omega⟩ (fun c d _=>⟨rfl,d.trans (if_pos g).symm⟩)
 refine fun _ _ _ _ _ _ V=>(Zn rfl rfl (V 12 dc) (fun p=>?_) (fun p=>fun c d _=>⟨trivial,d.trans (if_neg p).symm⟩))
 have hl450:=tD p.1
 have hl451:=fD p.2
 exact Zv (Eq.trans (V 17 dc) (if_pos ⟨p.1,p.2⟩)) (fun c d _=>⟨rfl,d.trans (if_pos p).symm⟩)
 refine ob1 1 fun _ _ aE X=>?_
 obtain⟨e,aF⟩:=aE
 refine Zn rfl rfl (X 12 dc) (fun q=>?_) (fun q=>fun c d _=>⟨trivial,d.trans (if_neg q).symm⟩)
 have hl462:=tD q.1
 have hl463:=fD q.2
 have Y:((a.fld.moves.getD a.arg.toNat default).need).toNat<a.cls.length:=bo
 obtain⟨ae,K,hoke464⟩:=hda1.celD Y
 have hsm466:((a.cls.getD (((a.fld.moves.getD a.arg.toNat default).need).toNat) default).set).length*8≤140737488355328:=K.small
 have af:=aF.cells ae (hda1.foot (ne_of_lt Y))
 exact lD (Iv ((a.cls.getD (((a.fld.moves.getD a.arg.toNat default).need).toNat) default).n)) lT (Eq.trans (X 18 dc) (if_pos ⟨q.1,q.2⟩)) (af.get (j:=0) rfl) (fun c d _=>⟨rfl,d.trans (if_pos q).symm⟩)
 refine fun _ _ _ _ _ _ aG=>(Zn rfl rfl (aG 12 dc) (fun B=>?_) (fun B=>fun c d _=>⟨trivial,d.trans (if_neg B).symm⟩))
 have hl476:=tD B.1
 have hl477:=fD B.2
 exact UX rfl (fun c d _=>⟨rfl,d.trans (if_pos B).symm⟩)
 refine ob1 1 fun _ _ aH Z=>?_
 obtain⟨e,aI⟩:=aH
 refine Zn rfl rfl (Z 12 dc) (fun s=>?_) (fun s=>fun c d _=>⟨trivial,d.trans (if_neg s).symm⟩)
 have hl488:=tD s.1
 have hl489:=fD s.2
 exact lD (Iv ((a.fld.moves.getD a.arg.toNat default).least)) lT (Eq.trans (Z 20 dc) (if_pos ⟨s.1,s.2⟩)) (zb (aI.b0) rfl) (fun c d _=>⟨rfl,d.trans (if_pos s).symm⟩)
 refine ob1 1 fun _ _ aJ H=>?_
 obtain⟨e,hS496⟩:=aJ
 refine Zn rfl rfl (H 12 dc) (fun h=>?_) (fun h=>fun c d _=>⟨trivial,d.trans (if_neg h).symm⟩)
 have hl501:=tD h.1
 have hl502:=fD h.2
 exact xv (k:=.i64) (a:=(a.cls.getD (((a.fld.moves.getD a.arg.toNat default).need).toNat) default).n) (b:=(a.fld.moves.getD a.arg.toNat default).least) (Eq.trans (H 19 dc) (if_pos ⟨h.1,h.2⟩)) (Eq.trans (H 21 dc) (if_pos ⟨h.1,h.2⟩)) (fun c d _=>⟨rfl,d.trans (if_pos h).symm⟩)
 refine fun _ _ _ _ _ _ I=>(zX rfl rfl (I 8 dc) (fun t=>?_) (fun t=>fun c d _=>⟨trivial,d.trans (if_neg t).symm⟩))
 have hl513:=tD t
 exact zp (b:=decide (((a.fld.moves.getD a.arg.toNat default).need)<0)) (b':=decide (((a.fld.moves.getD a.arg.toNat default).least)≤((a.cls.getD (((a.fld.moves.getD a.arg.toNat default).need).toNat) default).n))) (Eq.trans (I 12 dc) (if_pos t)) (fun hbp=>(Eq.trans (I 22 dc) (if_pos ⟨t,hbp⟩))) (fun c d _=>⟨rfl,d.trans (if_pos t).symm⟩)
 exact fun _ _ _ _ _ _ aa=>obl rfl (zC (b:=decide (((a.cls.getD a.no.toNat default).n)=((a.fld.moves.getD a.arg.toNat default).frm))) (b':=(decide (((a.fld.moves.getD a.arg.toNat default).need)<0))||(decide (((a.fld.moves.getD a.arg.toNat default).least)≤((a.cls.getD (((a.fld.moves.getD a.arg.toNat default).need).toNat) default).n)))) (aa 8 dc) (fun hbp=>(Eq.trans (aa 23 dc) (if_pos hbp))) dR)
 intro vals w529 aK aL
 obtain⟨e,aM⟩:=aK
 have aZ:=aL 25 dc
 refine zZ (kv:=[(0,.agg (a.cells da0 da1).toArray),(1,Ix b2 0),(2,.bool ((decide (((a.cls.getD a.no.toNat default).n)=((a.fld.moves.getD a.arg.toNat default).frm)))&&((decide (((a.fld.moves.getD a.arg.toNat default).need)<0))||(decide (((a.fld.moves.getD a.arg.toNat default).least)≤((a.cls.getD (((a.fld.moves.getD a.arg.toNat default).need).toNat) default).n)))))),(4,Ix b2 0),(5,Ix b2 3),(6,da0),(7,Ix b2 6),(8,Iv (a.arg)),(9,Ix (sb da0) (so da0+a.arg.toNat*4)),(10,.agg ((a.fld.moves.getD a.arg.toNat default).cells).toArray),(3,Ix D 0)]) ⟨rfl,rfl,(by exact aZ),rfl,rfl,rfl,rfl,rfl,rfl,rfl,rfl,trivial⟩ (fun ρw529=>(zd (zj ?_)))
 refine zK Tryz.results69 (show _=(.bool ((decide (((a.cls.getD a.no.toNat default).n)=((a.fld.moves.getD a.arg.toNat default).frm)))&&((decide (((a.fld.moves.getD a.arg.toNat default).need)<0))||(decide (((a.fld.moves.getD a.arg.toNat default).least)≤((a.cls.getD (((a.fld.moves.getD a.arg.toNat default).need).toNat) default).n))))):Value)from rfl) ?_
 refine⟨?_,(aM.s2_)⟩
 unfold xL
 rw[if_neg (by decide),if_neg (by decide),if_pos rfl]
 rfl
theorem yqd {α:Sort _}{a:α}{X:Prop}(h:a≠a):X:=absurd rfl h
structure Rul where
 may:Nat
 does:Nat
instance:Rep Rul where
 k:=2
 rd _ _ cs x:=cs=[.func (.func x.may) #[] #[],.func (.func x.does) #[] #[]]
 bytes:=16
 bpos:=by decide
 kpos:=by decide
 len h:=by rw[h];rfl
 one h:=by rw[h];exact ye ⟨rfl,rfl,trivial⟩
 mono h _:=h
instance:Flat Rul:=⟨fun h=>h⟩
def Zg:List (Int×Rul):=[(1,⟨61,62⟩),(2,⟨64,65⟩),(3,⟨66,67⟩),(4,⟨64,68⟩),(5,⟨69,70⟩)]
theorem XG {op:Int}(h:op≠1∧op≠2∧op≠3∧op≠4∧op≠5):Ze Zg op=none:=by
 unfold Ze
 rw[Option.map_eq_none_iff,List.find?_eq_none]
 intro p hp
 simp only[Zg,List.mem_cons,List.not_mem_nil,or_false]at hp
 rcases hp with rfl|rfl|rfl|rfl|rfl<;>simp<;>omega
theorem Qt {G:Nat→Prop}{W w:World}{Rs:List HP}(hS0:Sep G W Rs w):Ret Tryz.prog 45 [] w (fun r w'=> ∃(m:Nat),r=(.map (some m):Value)∧Sep G W ((ZT (α:=Rul) m Zg)::Rs) w'):=by
 refine zi (args:=[]) Tryz.func45 rfl rfl ?_
 refine za (R0 fun _=>st (aS (.map none) (zd (za (R0 fun _=>st (Zy ?_))))))
 intro D x
 obtain⟨a,l⟩: ∃z,z=w.heap.size:=⟨_,rfl⟩;rw[←l]
 have n:Sep G W ((ZT (α:=Rul) a [])::Rs) D:=(by rw[l];exact hS0.mapNew x)
 refine st (zP (parts':=[(0,.func (.func 61) #[] #[]),(1,.func (.func 62) #[] #[])]) (v:=.agg #[.func (.func 61) #[] #[],.func (.func 62) #[] #[]]) rfl (by simp+zetaDelta [Instr.build,Instr.fill,Ev.cells,go_sem,Mv.cells,Fld.cells,Typ.cells,Prj.cells,Dcl.cells,Cel.cells,AskR.cells]) (stn (Zl (α:=Rul) (F:=fun _=>False) (x1:=(⟨61,62⟩:Rul)) (cs:=[.func (.func 61) #[] #[],.func (.func 62) #[] #[]]) qT mT rfl rfl rfl (by decide) (n.map_ (i:=0) rfl) rfl (fun h=>h) ?_)))
 intro E y p
 have o:Sep G W ((ZT (α:=Rul) a (xP ([]:List (Int×Rul)) 1 (⟨61,62⟩:Rul)))::Rs) E:=n.mapPut (i:=0) rfl y p
 refine st (zP (parts':=[(0,.func (.func 64) #[] #[]),(1,.func (.func 65) #[] #[])]) (v:=.agg #[.func (.func 64) #[] #[],.func (.func 65) #[] #[]]) rfl (by simp+zetaDelta [Instr.build,Instr.fill,Ev.cells,go_sem,Mv.cells,Fld.cells,Typ.cells,Prj.cells,Dcl.cells,Cel.cells,AskR.cells]) (stn (Zl (α:=Rul) (F:=fun _=>False) (x1:=(⟨64,65⟩:Rul)) (cs:=[.func (.func 64) #[] #[],.func (.func 65) #[] #[]]) qT mT rfl rfl rfl (by decide) (o.map_ (i:=0) rfl) rfl (fun h=>h) ?_)))
 intro H q f
 have b:Sep G W ((ZT (α:=Rul) a (xP (xP ([]:List (Int×Rul)) 1 (⟨61,62⟩:Rul)) 2 (⟨64,65⟩:Rul)))::Rs) H:=o.mapPut (i:=0) rfl q f
 refine st (zP (parts':=[(0,.func (.func 66) #[] #[]),(1,.func (.func 67) #[] #[])]) (v:=.agg #[.func (.func 66) #[] #[],.func (.func 67) #[] #[]]) rfl (by simp+zetaDelta [Instr.build,Instr.fill,Ev.cells,go_sem,Mv.cells,Fld.cells,Typ.cells,Prj.cells,Dcl.cells,Cel.cells,AskR.cells]) (stn (Zl (α:=Rul) (F:=fun _=>False) (x1:=(⟨66,67⟩:Rul)) (cs:=[.func (.func 66) #[] #[],.func (.func 67) #[] #[]]) qT mT rfl rfl rfl (by decide) (b.map_ (i:=0) rfl) rfl (fun h=>h) ?_)))
 intro A s g
 have c:Sep G W ((ZT (α:=Rul) a (xP (xP (xP ([]:List (Int×Rul)) 1 (⟨61,62⟩:Rul)) 2 (⟨64,65⟩:Rul)) 3 (⟨66,67⟩:Rul)))::Rs) A:=b.mapPut (i:=0) rfl s g
 refine st (zP (parts':=[(0,.func (.func 64) #[] #[]),(1,.func (.func 68) #[] #[])]) (v:=.agg #[.func (.func 64) #[] #[],.func (.func 68) #[] #[]]) rfl (by simp+zetaDelta [Instr.build,Instr.fill,Ev.cells,go_sem,Mv.cells,Fld.cells,Typ.cells,Prj.cells,Dcl.cells,Cel.cells,AskR.cells]) (stn (Zl (α:=Rul) (F:=fun _=>False) (x1:=(⟨64,68⟩:Rul)) (cs:=[.func (.func 64) #[] #[],.func (.func 68) #[] #[]]) qT mT rfl rfl rfl (by decide) (c.map_ (i:=0) rfl) rfl (fun h=>h) ?_)))
 intro B t j
 have d:Sep G W ((ZT (α:=Rul) a (xP (xP (xP (xP ([]:List (Int×Rul)) 1 (⟨61,62⟩:Rul)) 2 (⟨64,65⟩:Rul)) 3 (⟨66,67⟩:Rul)) 4 (⟨64,68⟩:Rul)))::Rs) B:=c.mapPut (i:=0) rfl t j
 refine st (zP (parts':=[(0,.func (.func 69) #[] #[]),(1,.func (.func 70) #[] #[])]) (v:=.agg #[.func (.func 69) #[] #[],.func (.func 70) #[] #[]]) rfl (by simp+zetaDelta [Instr.build,Instr.fill,Ev.cells,go_sem,Mv.cells,Fld.cells,Typ.cells,Prj.cells,Dcl.cells,Cel.cells,AskR.cells]) (stn (Zl (α:=Rul) (F:=fun _=>False) (x1:=(⟨69,70⟩:Rul)) (cs:=[.func (.func 69) #[] #[],.func (.func 70) #[] #[]]) qT mT rfl rfl rfl (by decide) (d.map_ (i:=0) rfl) rfl (fun h=>h) ?_)))
 intro C u k
 have e:Sep G W ((ZT (α:=Rul) a (xP (xP (xP (xP (xP ([]:List (Int×Rul)) 1 (⟨61,62⟩:Rul)) 2 (⟨64,65⟩:Rul)) 3 (⟨66,67⟩:Rul)) 4 (⟨64,68⟩:Rul)) 5 (⟨69,70⟩:Rul)))::Rs) C:=d.mapPut (i:=0) rfl u k
 refine st (mV (.map (some a)) (st (aS (.map (some a)) (zd (zj (zK Tryz.results45 (show _=(.map (some a):Value)from rfl) ?_))))))
 have hz:xP (xP (xP (xP (xP ([]:List (Int×Rul)) 1 (⟨61,62⟩:Rul)) 2 (⟨64,65⟩:Rul)) 3 (⟨66,67⟩:Rul)) 4 (⟨64,68⟩:Rul)) 5 (⟨69,70⟩:Rul)=Zg:=rfl
 rw[hz]at e
 refine⟨a,rfl,e⟩
theorem Wj {op:Int}(h:op=1∨op=2∨op=3∨op=4∨op=5): ∃x,Ze Zg op=some x:=by rcases h with rfl|rfl|rfl|rfl|rfl<;>exact⟨_,rfl⟩
theorem Wq {op:Int}{x:Rul}(h:op=1∨op=2∨op=3∨op=4∨op=5)(hx:Ze Zg op=some x):(∀args w,(callFunc x.may args).run Tryz.prog w=.ok (.enter x.may args) w)∧(∀args w,(callFunc x.does args).run Tryz.prog w=.ok (.enter x.does args) w):=by
 rcases h with rfl|rfl|rfl|rfl|rfl<;>cases hx
 ·exact⟨Tryz.call61,Tryz.call62⟩
 ·exact⟨mA,Tryz.call65⟩
 ·exact⟨Tryz.call66,Tryz.call67⟩
 ·exact⟨mA,Tryz.call68⟩
 ·exact⟨Tryz.call69,Tryz.call70⟩
theorem zbH {G:Nat→Prop}{W w:World}{Rs:List HP}{op:Int}{x:Rul}{a:AskR}{da0:Value}(hda0:RdS W G da0 a.fld.moves){da1:Value}(hda1:RdS W G da1 a.cls)(oa:a.Ok)(hS0:Sep G W Rs w)(hx:Ze Zg op=some x)(hop:op=1∨op=2∨op=3∨op=4∨op=5)(hak:0≤a.no∧a.no<a.cls.length∧((op=3∨op=4)→Asc (yo a.cls a.no).set)∧(op=5→0≤a.arg∧a.arg<a.fld.moves.length∧((Ym a.fld a.arg).need<0∨(Ym a.fld a.arg).need<a.cls.length))):Ret Tryz.prog x.may [.agg (a.cells da0 da1).toArray] w (fun r w'=>r=(.bool (xL a.fld a.cls (yo a.cls a.no) op a.arg):Value)∧Sep G W Rs w'):=by
 rcases hop with rfl|rfl|rfl|rfl|rfl<;>cases hx
 ·exact KJ hda0 hda1 oa hS0 ⟨hak.1,hak.2.1⟩
 ·exact Ua hda0 hda1 oa hS0
 ·exact Jx hda0 hda1 oa hS0 ⟨hak.1,hak.2.1⟩ (hak.2.2.1 (.inl rfl))
 ·exact Ua hda0 hda1 oa hS0
 ·exact Qv hda0 hda1 oa hS0 ⟨hak.1,hak.2.1⟩ ⟨(hak.2.2.2 rfl).1,(hak.2.2.2 rfl).2.1⟩ (hak.2.2.2 rfl).2.2
set_option maxHeartbeats 4000000 in
theorem zaZ {G:Nat→Prop}{W w:World}{Rs:List HP}{t:Typ}{dt0:Value}(hdt0:RdS W G dt0 t.fields)(ot:t.Ok){vc:Value}{c:List Cel}(hc:RdS W G vc c){f:Int}(hf:InR f){op:Int}(hop:InR op){arg:Int}(harg:InR arg)(hS0:Sep G W Rs w)(hak:XQ t c f op arg):Ret Tryz.prog 31 [.agg (t.cells dt0).toArray,vc,.int .i64 (f),.int .i64 (op),.int .i64 (arg)] w (fun r w'=>r=(.int .i64 (yX t c f op arg):Value)∧Sep G W Rs w'):=by
 have hdt0s:_*48≤_:=hdt0.small
 have hcs:_*32≤_:=hc.small
 have hf0:=hak.1;have hf1:=hak.2.1;have hf2:=hak.2.2.1
 refine zi (args:=[.agg (t.cells dt0).toArray,vc,Iv f,Iv op,Iv arg]) Tryz.func31 rfl rfl ?_
 refine za (R0 fun _=>st (zN (v:=.agg (t.cells dt0).toArray) rfl ?_))
 intro w3 b2 aM
 refine st (aS (Iv 0) (zd (za (za (R0 fun _=>st (cL Tryz.call45 (Qt (hS0.new aM)) ?_))))))
 rintro _ w6 ⟨Q,rfl,A⟩
 refine st (mV (Iv op) ?_)
 have hops:(op=1∨op=2∨op=3∨op=4∨op=5)∨(op≠1∧op≠2∧op≠3∧op≠4∧op≠5):=by omega
 rcases hops with hop|hop
 obtain⟨rx,hrx⟩:=Wj hop
 refine st (Yf (α:=Rul) (a:=rx) qT mT rfl rfl (A.map_ (i:=0) rfl) hrx ?_)
 rintro _ rfl
 refine st (mV (.tuple #[.agg #[.func (.func rx.may) #[] #[],.func (.func rx.does) #[] #[]],.bool true]) (st (zk (vs:=[.agg #[.func (.func rx.may) #[] #[],.func (.func rx.does) #[] #[]],.bool true]) (i:=0) (v:=.agg #[.func (.func rx.may) #[] #[],.func (.func rx.does) #[] #[]]) rfl rfl (st (zk (vs:=[.agg #[.func (.func rx.may) #[] #[],.func (.func rx.does) #[] #[]],.bool true]) (i:=1) (v:=.bool true) rfl rfl (st (zt lY ?_)))))))
 intro w10 b9 aN
 have R:=A.new aN
 refine stn (zq (v:=.agg #[.func (.func rx.may) #[] #[],.func (.func rx.does) #[] #[]]) (c':=#[.func (.func rx.may) #[] #[],.func (.func rx.does) #[] #[]]) nA rfl rfl (R.b0) (ye ⟨rfl,rfl,trivial⟩) yqc rfl ?_)
 intro w12 aF
 refine st (aS (.bool true) (zd (za ?_)))
 refine WD4 ((fun TT s=>WF [fun vals u=>Sep G W (s::TT) u,fun vals u=>(vals 13=(.bool (xL (⟨((t.fields.getD f.toNat default)),c,f,arg⟩:AskR).fld (⟨((t.fields.getD f.toNat default)),c,f,arg⟩:AskR).cls (yo (⟨((t.fields.getD f.toNat default)),c,f,arg⟩:AskR).cls (⟨((t.fields.getD f.toNat default)),c,f,arg⟩:AskR).no) op (⟨((t.fields.getD f.toNat default)),c,f,arg⟩:AskR).arg):Value))∧Sep G W (s::TT) u]) ((ZT (α:=Rul) Q Zg)::(Blk b2 (t.cells dt0).toArray 53)::Rs) (Blk b9 #[.func (.func rx.may) #[] #[],.func (.func rx.does) #[] #[]] 104)) (AF [Vl 0 (.bool true),Vl 1 (.bool true),Vl 2 (Ix b9 0),Vl 3 (.func (.func rx.may) #[] #[]),Vl 4 (Ix b2 0),Vl 5 (dt0),Vl 6 (Iv f),Vl 7 (Ix (sb dt0) (so dt0+f.toNat*4)),Vl 8 (.agg ((t.fields.getD f.toNat default).cells (zI W (sb dt0) (so dt0+f.toNat*4+3))).toArray),Vl 9 (vc),Vl 10 (Iv f),Vl 11 (Iv arg),Vl 12 (.agg ((⟨((t.fields.getD f.toNat default)),c,f,arg⟩:AskR).cells (zI W (sb dt0) (so dt0+f.toNat*4+3)) vc).toArray),fun _=>True,Vl 14 (.bool (!(xL (⟨((t.fields.getD f.toNat default)),c,f,arg⟩:AskR).fld (⟨((t.fields.getD f.toNat default)),c,f,arg⟩:AskR).cls (yo (⟨((t.fields.getD f.toNat default)),c,f,arg⟩:AskR).cls (⟨((t.fields.getD f.toNat default)),c,f,arg⟩:AskR).no) op (⟨((t.fields.getD f.toNat default)),c,f,arg⟩:AskR).arg))),Vl 15 (.bool (!(xL (⟨((t.fields.getD f.toNat default)),c,f,arg⟩:AskR).fld (⟨((t.fields.getD f.toNat default)),c,f,arg⟩:AskR).cls (yo (⟨((t.fields.getD f.toNat default)),c,f,arg⟩:AskR).cls (⟨((t.fields.getD f.toNat default)),c,f,arg⟩:AskR).no) op (⟨((t.fields.getD f.toNat default)),c,f,arg⟩:AskR).arg)))]) [[],[0],[0,1],[0,1,2],[0,1],[0,1,4],[0,1],[0,1,4,5,6],[0,1,4,5,6,7],[0,1],[0,1],[0,1],[0,1,4,5,6,7,8,9,10,11],(rg 13),(rg 14),(rg 15)] [13] [(0,0),(0,0),(0,0),(0,0),(0,0),(0,0),(0,0),(0,0),(0,0),(0,0),(0,0),(0,0),(0,0),(0,0),(1,1),(1,1)] (R.pt0 aF) ⟨fun _ _ _ _ _ _ _=>obl rfl (mV (.bool true) dR),fun _ _ _ _ _ _ V=>obl rfl (zV (v:=.bool true) (V 0 dc) dR),?_,?_,?_,?_,?_,?_,?_,?_,?_,?_,?_,?_,?_,fun _ _ _ _ _ _ B=>obl rfl (yj (v:=.bool (!(xL (⟨((t.fields.getD f.toNat default)),c,f,arg⟩:AskR).fld (⟨((t.fields.getD f.toNat default)),c,f,arg⟩:AskR).cls (yo (⟨((t.fields.getD f.toNat default)),c,f,arg⟩:AskR).cls (⟨((t.fields.getD f.toNat default)),c,f,arg⟩:AskR).no) op (⟨((t.fields.getD f.toNat default)),c,f,arg⟩:AskR).arg))) (B 1 dc) (B 14 dc) dR),trivial⟩ ?_
 refine fun _ _ _ _ _ _ X=>(zX rfl rfl (X 1 dc) (fun _=>?_) yqd)
 exact zay rfl dR
 refine ob1 0 fun _ _ (Y:Sep _ _ _ _) C=>(zX rfl rfl (C 1 dc) (fun _=>?_) yqd)
 exact lD (.func (.func rx.may) #[] #[]) Tryz.isAgg101 (C 2 dc) (zb (Y.b0) rfl) dR
 refine fun _ _ _ _ _ _ Z=>(zX rfl rfl (Z 1 dc) (fun _=>?_) yqd)
 exact xe rfl dR
 refine ob1 0 fun _ _ (aa:Sep _ _ _ _) D=>(zX rfl rfl (D 1 dc) (fun _=>?_) yqd)
 exact lD dt0 Tryz.isAgg51 (D 4 dc) (zb (aa.b2) rfl) dR
 refine fun _ _ _ _ _ _ ab=>(zX rfl rfl (ab 1 dc) (fun _=>?_) yqd)
 exact mV (Iv f) dR
 refine ob1 0 fun _ _ _ n=>(zX rfl rfl (n 1 dc) (fun _=>?_) yqd)
 have hi224:f.toNat<t.fields.length:=(by have h1:=hak.1;have h2:=hak.2.1;have h3:=hak.2.2.1;omega)
 exact zA (k:=4) (i:=f) Tryz.underlying51 rR (n 5 dc) hdt0.sl (n 6 dc) ⟨by omega,by omega⟩ dR
 refine ob1 0 fun _ _ (ac:Sep _ _ _ _) E=>(zX rfl rfl (E 1 dc) (fun _=>?_) yqd)
 have F:f.toNat<t.fields.length:=(by have h1:=hak.1;have h2:=hak.2.1;have h3:=hak.2.2.1;omega)
 obtain⟨S,x,hoke234⟩:=hdt0.fldD F
 have hsm236:((t.fields.getD f.toNat default).moves).length*32≤140737488355328:=x.small
 have T:=ac.cells S (hdt0.foot (ne_of_lt F))
 exact zf (k:=4) Tryz.isAgg110 rR rfl (E 7 dc) T dR
 refine fun _ _ _ _ _ _ ad=>(zX rfl rfl (ad 1 dc) (fun _=>?_) yqd)
 exact mV vc dR
 refine fun _ _ _ _ _ _ ae=>(zX rfl rfl (ae 1 dc) (fun _=>?_) yqd)
 exact mV (Iv f) dR
 refine fun _ _ _ _ _ _ af=>(zX rfl rfl (af 1 dc) (fun _=>?_) yqd)
 exact mV (Iv arg) dR
 refine fun _ _ _ _ _ _ e=>(zX rfl rfl (e 1 dc) (fun _=>?_) yqd)
 have ag:f.toNat<t.fields.length:=(by have h1:=hak.1;have h2:=hak.2.1;have h3:=hak.2.2.1;omega)
 obtain⟨hce270,y,l⟩:=hdt0.fldD ag
 have hsm272:((t.fields.getD f.toNat default).moves).length*32≤140737488355328:=y.small
 have ok273:AskR.Ok (⟨((t.fields.getD f.toNat default)),c,f,arg⟩:AskR):=⟨⟨(show InR ((t.fields.getD f.toNat default).kind)from l.kind),(show InR ((t.fields.getD f.toNat default).policy)from l.policy)⟩,(show InR (f)from om),(show InR (arg)from om)⟩
 exact zP (parts':=[(0,.agg ((t.fields.getD f.toNat default).cells (zI W (sb dt0) (so dt0+f.toNat*4+3))).toArray),(1,vc),(2,Iv f),(3,Iv arg)]) (v:=.agg ((⟨((t.fields.getD f.toNat default)),c,f,arg⟩:AskR).cells (zI W (sb dt0) (so dt0+f.toNat*4+3)) vc).toArray) (ZE ⟨rfl,(e 8 (by decide)),rfl,(e 9 (by decide)),rfl,(e 10 (by decide)),rfl,(e 11 (by decide)),trivial⟩) (by obtain⟨_,_,ah,_⟩:=hc.sl;rw[show vc=Value.slice _ _ _ from ah];simp[Instr.build,Instr.fill,Ev.cells,go_sem,Mv.cells,Fld.cells,Typ.cells,Prj.cells,Dcl.cells,Cel.cells,AskR.cells]) dR
 refine ob1 0 fun vals _ (H:Sep _ _ _ _) o=>(zX rfl rfl (o 1 dc) (fun _=>?_) yqd)
 have I:f.toNat<t.fields.length:=(by have h1:=hak.1;have h2:=hak.2.1;have h3:=hak.2.2.1;omega)
 obtain⟨U,j,m⟩:=hdt0.fldD I
 have hsm140:((t.fields.getD f.toNat default).moves).length*32≤140737488355328:=j.small
 have hcw141:=H.cells U (hdt0.foot (ne_of_lt I))
 have ai:AskR.Ok (⟨((t.fields.getD f.toNat default)),c,f,arg⟩:AskR):=⟨⟨(show InR ((t.fields.getD f.toNat default).kind)from m.kind),(show InR ((t.fields.getD f.toNat default).policy)from m.policy)⟩,(show InR (f)from om),(show InR (arg)from om)⟩
 refine(zG (f:=rx.may) (vals:=[.agg ((⟨((t.fields.getD f.toNat default)),c,f,arg⟩:AskR).cells (zI W (sb dt0) (so dt0+f.toNat*4+3)) vc).toArray]) (cap:=[]) (show _=(.func (.func rx.may) #[] #[]:Value)from(o 3 dc)) (yK ⟨(o 12 dc),trivial⟩) (Wq hop hrx).1 (zbH (a:=(⟨((t.fields.getD f.toNat default)),c,f,arg⟩:AskR)) j hc ai H (hrx) (hop) (⟨hak.1,hak.2.2.1,hak.2.2.2.1,hak.2.2.2.2⟩)) ?_)
 rintro _ w143 ⟨rfl,aj⟩
 exact fun b d aO=>⟨(zv d aj),trivial⟩
 refine ob1 1 fun _ _ ak al=>?_
 obtain⟨J,hS281⟩:=ak
 refine zX rfl rfl (al 1 dc) (fun _=>?_) yqd
 exact yF (a:=xL (⟨((t.fields.getD f.toNat default)),c,f,arg⟩:AskR).fld (⟨((t.fields.getD f.toNat default)),c,f,arg⟩:AskR).cls (yo (⟨((t.fields.getD f.toNat default)),c,f,arg⟩:AskR).cls (⟨((t.fields.getD f.toNat default)),c,f,arg⟩:AskR).no) op (⟨((t.fields.getD f.toNat default)),c,f,arg⟩:AskR).arg) J dR
 intro vals w291 am an
 obtain⟨J,K⟩:=am
 have aJ:=an 15 dc
 refine zZ (kv:=[(0,.agg (t.cells dt0).toArray),(1,vc),(2,Iv f),(3,Iv op),(4,Iv arg),(5,Ix b2 0),(10,Iv 0),(14,.map (some Q)),(15,Iv op),(16,.tuple #[.agg #[.func (.func rx.may) #[] #[],.func (.func rx.does) #[] #[]],.bool true]),(13,.tuple #[.agg #[.func (.func rx.may) #[] #[],.func (.func rx.does) #[] #[]],.bool true]),(17,.agg #[.func (.func rx.may) #[] #[],.func (.func rx.does) #[] #[]]),(18,.bool true),(11,Ix b9 0),(12,.bool true),(34,.bool (!(xL (⟨((t.fields.getD f.toNat default)),c,f,arg⟩:AskR).fld (⟨((t.fields.getD f.toNat default)),c,f,arg⟩:AskR).cls (yo (⟨((t.fields.getD f.toNat default)),c,f,arg⟩:AskR).cls (⟨((t.fields.getD f.toNat default)),c,f,arg⟩:AskR).no) op (⟨((t.fields.getD f.toNat default)),c,f,arg⟩:AskR).arg)))]) ⟨rfl,rfl,rfl,rfl,rfl,rfl,rfl,rfl,rfl,rfl,rfl,rfl,rfl,rfl,rfl,(by exact aJ),trivial⟩ (fun ρw291=>(zd ?_))
 cases h: !(xL (⟨((t.fields.getD f.toNat default)),c,f,arg⟩:AskR).fld (⟨((t.fields.getD f.toNat default)),c,f,arg⟩:AskR).cls (yo (⟨((t.fields.getD f.toNat default)),c,f,arg⟩:AskR).cls (⟨((t.fields.getD f.toNat default)),c,f,arg⟩:AskR).no) op (⟨((t.fields.getD f.toNat default)),c,f,arg⟩:AskR).arg)
 try simp only[ze]at h
 refine zg rfl (zl (za (R0 fun _=>st (aS (Iv 0) (zd (zj (zK mY (show _=(Iv 0:Value)from rfl) ?_)))))))
 refine⟨?_,(K.s3_)⟩
 have hm:xL (xh t f) c (yo c f) op arg=true:=h
 unfold yX
 rw[hm]
 rfl
 try simp only[ze]at h
 refine zh rfl (za (R0 fun _=>st (aS (Iv 10) (zd (zj (zK mY (show _=(Iv 10:Value)from rfl) ?_))))))
 refine⟨?_,(K.s3_)⟩
 have hm:xL (xh t f) c (yo c f) op arg=false:=h
 unfold yX
 rw[hm]
 rfl
 refine st (Yb (α:=Rul) (zc:=[.nilFunc,.nilFunc]) qT mT lY rfl rfl (A.map_ (i:=0) rfl) (XG hop) (st (mV (.tuple #[.agg #[.nilFunc,.nilFunc],.bool false]) (st (zk (vs:=[.agg #[.nilFunc,.nilFunc],.bool false]) (i:=0) (v:=.agg #[.nilFunc,.nilFunc]) rfl rfl (st (zk (vs:=[.agg #[.nilFunc,.nilFunc],.bool false]) (i:=1) (v:=.bool false) rfl rfl (st (zt lY ?_)))))))))
 intro w301 z ao
 have L:=A.new ao
 refine stn (zq (v:=.agg #[.nilFunc,.nilFunc]) (c':=#[.nilFunc,.nilFunc]) nA rfl rfl (L.b0) (ye ⟨rfl,rfl,trivial⟩) yqc rfl ?_)
 intro w303 ap
 refine st (aS (.bool false) (zd (za (WD4 ((fun TT s=>WF [fun vals u=>Sep G W (s::TT) u,fun vals u=>Sep G W (s::TT) u]) ((ZT (α:=Rul) Q Zg)::(Blk b2 (t.cells dt0).toArray 53)::Rs) (Blk z #[.nilFunc,.nilFunc] 104)) (AF [Vl 0 (.bool false),Vl 1 (.bool false),Vl 2 (undef),Vl 3 (undef),Vl 4 (undef),Vl 5 (undef),Vl 6 (undef),Vl 7 (undef),Vl 8 (undef),Vl 9 (undef),Vl 10 (undef),Vl 11 (undef),Vl 12 (undef),fun _=>True,Vl 14 (undef),Vl 15 (.bool false)]) [[],[0],[0,1],[0,1,2],[0,1],[0,1,4],[0,1],[0,1,4,5,6],[0,1,4,5,6,7],[0,1],[0,1],[0,1],[0,1,4,5,6,7,8,9,10,11],(rg 13),(rg 14),(rg 15)] [13] [(0,0),(0,0),(0,0),(0,0),(0,0),(0,0),(0,0),(0,0),(0,0),(0,0),(0,0),(0,0),(0,0),(0,0),(1,1),(1,1)] (L.pt0 ap) ⟨fun _ _ _ _ _ _ _=>obl rfl (mV (.bool false) dR),fun _ _ _ _ _ _ aq=>obl rfl (zV (v:=.bool false) (aq 0 dc) dR),?_,?_,?_,?_,?_,?_,?_,?_,?_,?_,?_,?_,?_,?_,trivial⟩ ?_))))
 exact fun _ _ _ _ _ _ ar=>(zX rfl rfl (ar 1 dc) (fun hb=>absurd hb dc) (fun _ b d _=>⟨trivial,d⟩))
 refine ob1 0 fun _ _ _ M=>?_
 have e463:=M 2 dc
 exact zX rfl rfl (M 1 dc) (fun hb=>absurd hb dc) (fun _ b d _=>⟨trivial,d⟩)
 exact fun _ _ _ _ _ _ au=>(zX rfl rfl (au 1 dc) (fun hb=>absurd hb dc) (fun _ b d _=>⟨trivial,d⟩))
 refine ob1 0 fun _ _ _ N=>?_
 have e479:=N 4 dc
 exact zX rfl rfl (N 1 dc) (fun hb=>absurd hb dc) (fun _ b d _=>⟨trivial,d⟩)
 exact fun _ _ _ _ _ _ av=>(zX rfl rfl (av 1 dc) (fun hb=>absurd hb dc) (fun _ b d _=>⟨trivial,d⟩))
 refine ob1 0 fun _ _ _ p=>?_
 have e495:=p 5 dc
 have e496:=p 6 dc
 exact zX rfl rfl (p 1 dc) (fun hb=>absurd hb dc) (fun _ b d _=>⟨trivial,d⟩)
 refine ob1 0 fun _ _ _ O=>?_
 have e505:=O 7 dc
 exact zX rfl rfl (O 1 dc) (fun hb=>absurd hb dc) (fun _ b d _=>⟨trivial,d⟩)
 exact fun _ _ _ _ _ _ aw=>(zX rfl rfl (aw 1 dc) (fun hb=>absurd hb dc) (fun _ b d _=>⟨trivial,d⟩))
 exact fun _ _ _ _ _ _ ax=>(zX rfl rfl (ax 1 dc) (fun hb=>absurd hb dc) (fun _ b d _=>⟨trivial,d⟩))
 exact fun _ _ _ _ _ _ ay=>(zX rfl rfl (ay 1 dc) (fun hb=>absurd hb dc) (fun _ b d _=>⟨trivial,d⟩))
 refine fun _ _ _ _ _ _ g=>?_
 have e534:=g 8 dc
 have e535:=g 9 dc
 have e536:=g 10 dc
 have e537:=g 11 dc
 exact zX rfl rfl (g 1 dc) (fun hb=>absurd hb dc) (fun _ b d _=>⟨trivial,d⟩)
 refine ob1 0 fun _ aK (az:Sep _ _ _ _) q=>?_
 have e417:=q 3 dc
 have e418:=q 12 dc
 refine zX rfl rfl (q 1 dc) (fun hb=>absurd hb dc) (fun _ b d aO=>?_)
 refine⟨?_,trivial⟩
 show Sep G W ((Blk z #[.nilFunc,.nilFunc] 104)::(ZT (α:=Rul) Q Zg)::(Blk b2 (t.cells dt0).toArray 53)::Rs) aK
 exact az
 exact ob1 1 fun _ _ _ aA=>(zX rfl rfl (aA 1 dc) (fun hb=>absurd hb dc) (fun _ b d _=>⟨trivial,d⟩))
 refine fun _ _ _ _ _ _ P=>?_
 have e553:=P 14 dc
 exact obl rfl (zU (v:=.bool false) (P 1 dc) rfl dR)
 intro vals w554 aB aC
 have aD:Sep _ _ _ _:=aB
 have aL:=aC 15 dc
 refine zZ (kv:=[(0,.agg (t.cells dt0).toArray),(1,vc),(2,Iv f),(3,Iv op),(4,Iv arg),(5,Ix b2 0),(10,Iv 0),(14,.map (some Q)),(15,Iv op),(16,.tuple #[.agg #[.nilFunc,.nilFunc],.bool false]),(13,.tuple #[.agg #[.nilFunc,.nilFunc],.bool false]),(17,.agg #[.nilFunc,.nilFunc]),(18,.bool false),(11,Ix z 0),(12,.bool false),(34,.bool false)]) ⟨rfl,rfl,rfl,rfl,rfl,rfl,rfl,rfl,rfl,rfl,rfl,rfl,rfl,rfl,rfl,(by exact aL),trivial⟩ (fun ρw554=>(zd (zg rfl (zl (za (R0 fun _=>st (aS (Iv 0) (zd (zj (zK mY (show _=(Iv 0:Value)from rfl) ?_))))))))))
 refine⟨?_,(aD.s3_)⟩
 have hm:xL (xh t f) c (yo c f) op arg=true:=by unfold xL;rw[if_neg hop.1,if_neg hop.2.2.1,if_neg hop.2.2.2.2]
 unfold yX
 rw[hm]
 rfl
end
section
open Go.Proofs Go.Shelf
def Jz:Go.Shelf.Ren:=⟨fun|21=>84|27=>103|28=>104|35=>110|39=>112|23=>85|n=>n,fun|0=>0|3=>3|4=>4|22=>39|n=>n,fun|n=>n⟩
theorem zbu:Go.Proofs.Lays2.n21 Tryz.prog Jz:={
 mixed:=by kernel_rfl,
 f21:=Tryz.func84.trans (congrArg some (by kernel_rfl)),
 f27:=Tryz.func103.trans (congrArg some (by kernel_rfl)),
 f28:=Tryz.func104.trans (congrArg some (by kernel_rfl)),
 f35:=Tryz.func110.trans (congrArg some (by kernel_rfl)),
 f39:=Tryz.func112.trans (congrArg some (by kernel_rfl)),
 t0:=pA,
 a0:=qA,
 z0:=rA,
 v0:=sA,
 t3:=mT,
 a3:=lT,
 z3:=kT,
 v3:=uR,
 t4:=tR,
 a4:=pR,
 z4:=wT,
 v4:=tA,
 t22:=nT,
 a22:=qR,
 z22:=rT,
 v22:=uA,
 i3:=by kernel_rfl
}
theorem zbo:Go.Proofs.Lays2.n23 Tryz.prog Jz:={
 mixed:=by kernel_rfl,
 f23:=Tryz.func85.trans (congrArg some (by kernel_rfl)),
 t0:=pA,
 a0:=qA,
 z0:=rA,
 v0:=sA,
 t3:=mT,
 a3:=lT,
 z3:=kT,
 v3:=uR,
 t4:=tR,
 a4:=pR,
 z4:=wT,
 v4:=tA,
 t22:=nT,
 a22:=qR,
 z22:=rT,
 v22:=uA,
 i3:=by kernel_rfl
}
end
section
open Go.RowKit Go.Sort
structure Wr (w w':World) (b:Nat) (c':List Value) (T:TypeId):Prop where
 at_: ∃a:Array Value,a.toList=c'∧w'.heap[b]? =some (.cells a T)
 other: ∀i,i≠b→w'.heap[i]? =w.heap[i]?
 size:w'.heap.size=w.heap.size
 os:w'.os=w.os
 tape:w'.tape=w.tape
 output:w'.output=w.output
 drawn:w.drawn≤w'.drawn
theorem Wr.trans {w1 w2 w3:World}{b:Nat}{c c':List Value}{T:TypeId}(h:Wr w1 w2 b c T)(k:Wr w2 w3 b c' T):Wr w1 w3 b c' T:=
 ⟨k.at_,fun i hi=>(k.other i hi).trans (h.other i hi),k.size.trans h.size,k.os.trans h.os,k.tape.trans h.tape,k.output.trans h.output,Nat.le_trans h.drawn k.drawn⟩
theorem Wr.drew {w:World}{b:Nat}{a:Array Value}{T:TypeId}(h:w.heap[b]? =some (.cells a T)):Wr w w.drew b a.toList T:=⟨⟨a,rfl,h⟩,fun _ _=>rfl,rfl,rfl,rfl,rfl,Nat.le_succ _⟩
theorem Wr.ahead {w:World}{b q:Nat}{a:Array Value}{T:TypeId}(h:w.heap[b]? =some (.cells a T)):Wr w (Sort.ahead w q) b a.toList T:=⟨⟨a,rfl,h⟩,fun _ _=>rfl,rfl,rfl,rfl,rfl,Nat.le_add_right _ _⟩
theorem Wr.chg {w w':World}{b:Nat}{c:List Value}{T:TypeId}(h:Wr w w' b c T){c0:Array Value}(h0:w.heap[b]? =some (.cells c0 T)):Chg (fun i=>i=b) w w':=
 ⟨h.os,h.tape,h.output,Nat.le_of_eq h.size.symm,fun i _ hne=>h.other i hne,fun i ⟨a,t,hi⟩=>by
  by_cases e:i=b
  ·subst e;obtain⟨z,_,hz⟩:=h.at_;exact⟨z,T,hz⟩
  ·exact⟨a,t,by rw[h.other i e];exact hi⟩,h.drawn⟩
theorem Un {w:World}{b o:Nat}{a:Array Value}{T:TypeId}(h:w.heap[b]? =some (.cells a T))(v:Value):Wr w (w.setCell ⟨b,o,none⟩ v) b (a.toList.set o v) T:=by
 refine⟨⟨a.setIfInBounds o v,by simp,?_⟩,fun i hi=>?_,by simp[World.setCell],rfl,rfl,rfl,Nat.le_refl _⟩
 ·simp[World.setCell,Array.getElem?_modify,h]
 ·simp only[World.setCell,Array.getElem?_modify];rw[if_neg (fun e=>hi e.symm)]
def JN (c:List Value)(o:Nat):List Value→List Value
 |[]=>c
 |v::vs=>JN (c.set o v) (o+1) vs
theorem xr {b:Nat}{T:TypeId}: ∀(vs:List Value) (o:Nat) (w:World) (a:Array Value),w.heap[b]? =some (.cells a T)→Wr w (w.setCells b o vs) b (JN a.toList o vs) T
 |[],_,w,a,h=>⟨⟨a,rfl,h⟩,fun _ _=>rfl,rfl,rfl,rfl,rfl,Nat.le_refl _⟩
 |v::vs,o,w,a,h=>by
  have h1:=Un (o:=o) h v
  obtain⟨a1,e1,h2⟩:=h1.at_
  have h3:=xr vs (o+1) _ a1 h2
  rw[e1]at h3
  exact h1.trans h3
theorem ZY: ∀(vs:List Value) (o:Nat) (c:List Value),o+vs.length≤c.length→JN c o vs=c.take o++vs++c.drop (o+vs.length)
 |[],o,c,_=>by simp[JN]
 |v::vs,o,c,h=>by
  simp only[List.length_cons]at h
  rw[JN,ZY vs (o+1) (c.set o v) (by simp;omega)]
  have e1:(c.set o v).take (o+1)=c.take o++[v]:=by
   rw[List.take_set,List.take_succ_eq_append_getElem (by omega),List.set_append_right _ _ (by simp;omega),List.length_take,Nat.min_eq_left (by omega),Nat.sub_self];rfl
  have e2:(c.set o v).drop (o+1+vs.length)=c.drop (o+1+vs.length):=by rw[List.drop_set_of_lt (by omega)]
  rw[e1,e2,List.length_cons,show o+1+vs.length=o+(vs.length+1) by omega]
  simp only[List.append_assoc,List.cons_append,List.nil_append]
section
variable {G:Nat→Prop}{W w:World}{Rs:List HP}{Ti:TypeId}{v:Value}{l:List Int}
def yy (l:List Int):List Value:=l.map fun x=>Value.int .i64 x
theorem We {q:List Value→Int→Prop}(hq: ∀cs x,q cs x→cs=[.int .i64 x]): ∀{css:List (List Value)} {l:List Int},EP q css l→css.flatten=yy l
 |[],[],_=>rfl
 |_::_,_::_,h=>by rw[List.flatten_cons,hq _ _ h.1,We hq h.2];rfl
 |[],_::_,h=>h.elim
 |_::_,[],h=>h.elim
theorem UO {q:List Value→Int→Prop}: ∀{l:List Int},(∀x∈l,q [.int .i64 x] x)→EP q (l.map fun x=>[Value.int .i64 x]) l
 |[],_=>trivial
 |x::l,h=>⟨h x (by simp),UO (fun y hy=>h y (by simp[hy]))⟩
theorem Yq (l:List Int):(l.map fun x=>[Value.int .i64 x]).flatten=yy l:=by
 induction l with
 |nil=>rfl
 |cons x l ih=>simp[yy]at*;exact ih
theorem Sep.intRow (h:Sep G W (RowE (α:=Int) own Ti v l::Rs) w):(∀x∈l,InR x)∧l.length*8≤140737488355328∧((v=.slice none 0 0∧l=[])∨ ∃g cap cur,v=.slice (some ⟨g,0,none⟩) l.length cap∧w.heap[g]? =some (.cells cur Ti)∧l.length≤cap∧cap≤maxLen∧cur.size=cap∧cur.toList.take l.length=yy l∧
 ∀w' v' (l':List Int) cur',Wr w w' g cur' Ti→v'=.slice (some ⟨g,0,none⟩) l'.length cap→l'.length≤cap→cur'.length=cap→cur'.take l'.length=yy l'→(∀x∈l',InR x)→l'.length*8≤140737488355328→Sep G W (RowE (α:=Int) own Ti v' l'::Rs) w'):=by
 obtain⟨f,hA,hl,hT⟩:=h.take (i:=0) rfl
 obtain⟨css,hE,hown,hrow,hsm⟩:=hA
 have hin: ∀x∈l,InR x:=by
  intro x hx
  obtain⟨i,hi,rfl⟩:=List.getElem_of_mem hx
  exact(EP.at2 hE i (by rw[hE.length];exact hi) hi).2
 refine⟨hin,hsm,?_⟩
 have hcf:css.flatten=yy l:=We (fun cs x h=>h.1) hE
 rcases hown.2 with⟨rfl,h0⟩|⟨g,cap,cur,rfl,hg,hb,hn,hm,hs,ht⟩
 ·exact .inl ⟨rfl,List.length_eq_zero_iff.1 h0⟩
 ·have hk:Rep.k Int=1:=rfl
  rw[hk,Nat.mul_one]at hs ht
  refine .inr ⟨g,cap,cur,rfl,hb,hn,hm,hs,by rw[ht,hcf],fun w' v' l' cur' hw hv' hl' hc' ht' hin' hsm'=>?_⟩
  obtain⟨a,ha,hat⟩:=hw.at_
  refine hT w' _ f ((hw.chg hb).weak (fun i _ hi=>by subst hi;exact hrow _ rfl)) ⟨l'.map fun x=>[Value.int .i64 x],UO (fun x hx=>⟨rfl,hin' x hx⟩),⟨by rw[Yq];simp[yy,hk],.inr ⟨g,cap,a,hv',hg,hat,hl',hm,?_,?_⟩⟩,fun b hb'=>?_,hsm'⟩ (fun _ h=>.inl h)
  ·rw[hk,Nat.mul_one,←hc',←ha];simp
  ·rw[hk,Nat.mul_one,Yq,←ht',←ha]
  ·subst hv';exact hrow b hb'
theorem Sep.intNew (h:Sep G W Rs w){w':World}{cap:Nat}{cur':List Value}{l':List Int}{c0:Array Value}{w1:World}(hn:New w w1 w.heap.size (.cells c0 Ti))(hw:Wr w1 w' w.heap.size cur' Ti)(hl':l'.length≤cap)(hc':cur'.length=cap)(hm:cap≤maxLen)(ht':cur'.take l'.length=yy l')(hin': ∀x∈l',InR x)(hsm':l'.length*8≤140737488355328):
 Sep G W (RowE (α:=Int) own Ti (.slice (some ⟨w.heap.size,0,none⟩) l'.length cap) l'::Rs) w':=by
 obtain⟨a,ha,hat⟩:=hw.at_
 have hk:Rep.k Int=1:=rfl
 have hx:Ext w w':=hn.ext.new (hw.chg hn.at_) (fun i hi e=>by omega)
 refine h.push hx (f:=fun b=>b=w.heap.size) ⟨l'.map fun x=>[Value.int .i64 x],UO (fun x hx=>⟨rfl,hin' x hx⟩),⟨by rw[Yq];simp[yy,hk],.inr ⟨w.heap.size,cap,a,rfl,Nat.zero_le _,hat,hl',hm,?_,?_⟩⟩,fun b hb'=>?_,hsm'⟩ (fun b h=>by omega)
 ·rw[hk,Nat.mul_one,←hc',←ha];simp
 ·rw[hk,Nat.mul_one,Yq,←ht',←ha]
 ·simp only[Value.ownBlock,Option.some.injEq]at hb';exact hb'.symm
theorem Sep.intNew' (h:Sep G W Rs w){w':World}{cap:Nat}{l':List Int}{c0:Array Value}(hn:New w w' w.heap.size (.cells c0 Ti))(hl':l'.length≤cap)(hc':c0.toList.length=cap)(hm:cap≤maxLen)(ht':c0.toList.take l'.length=yy l')(hin': ∀x∈l',InR x)(hsm':l'.length*8≤140737488355328):
 Sep G W (RowE (α:=Int) own Ti (.slice (some ⟨w.heap.size,0,none⟩) l'.length cap) l'::Rs) w':=
 h.intNew hn ⟨⟨c0,rfl,hn.at_⟩,fun _ _=>rfl,rfl,rfl,rfl,rfl,Nat.le_refl _⟩ hl' hc' hm ht' hin' hsm'
theorem Qb {w:World}{b o:Nat}{a:Array Value}{T:TypeId}{u:Value}(h:w.heap[b]? =some (.cells a T))(hu:a.toList[o]? =some u):w.cell? ⟨b,o,none⟩=some u:=xJ h (by simpa using hu)
theorem Ud (l:List Int): ∀u∈yy l,u.oneCell'=true:=by
 intro u hu;simp only[yy,List.mem_map]at hu;obtain⟨x,_,rfl⟩:=hu;rfl
theorem Kq (a b:List Int):yy (a++b)=yy a++yy b:=by simp[yy]
theorem yu (a:List Int):(yy a).length=a.length:=by simp[yy]
theorem Jb (n:Nat):(Builtin.zeroCells (Value.int .i64 0).cells n).toList.length=n:=by simp[Builtin.zeroCells,Value.cells]
theorem Uo (w:World)(o:Obj):New w (w.alloc o) w.heap.size o:=New.mk' w o
theorem QS (w:World)(o:Obj):New w (w.drew.alloc o) w.heap.size o:=
 have h:New w.drew (w.drew.alloc o) w.heap.size o:=New.mk' w.drew o
 ⟨Chg.trans (Vx (w0:=w.drew) rfl rfl rfl ⟨rfl,Nat.le_succ _⟩) h.ext,h.eq,h.size,h.at_⟩
set_option maxHeartbeats 1000000 in
theorem zaU {P:Program}{ρ:Go.Shelf.Ren}(L:Go.Proofs.Lays2.n21 P ρ){i b:Nat}{x:Int}(hTi:ρ.t 3=Ti)(hS0:Sep G W (RowE (α:=Int) own Ti v l::Blk b #[.int .i64 x] Ti::Rs) w)(hi:i≤l.length)(hx:InR x)(hbig:(l.length+1)*8≤140737488355328):
 Ret P (ρ.f 21) [v,.int .i64 ((i:Nat):Int),.slice (some ⟨b,0,none⟩) 1 1] w (fun r w'=>Sep G W (RowE (α:=Int) own Ti r (l.take i++x::l.drop i)::Rs) w'):=by
 have hb:=hS0.blk (i:=1) rfl
 have hvs: ∀j u,[Value.int .i64 x][j]? =some u→w.cell? ⟨b,0+j,none⟩=some u:=fun j u hu=>by rw[Nat.zero_add];exact Qb hb hu
 have h1v: ∀u∈[Value.int .i64 x],u.oneCell'=true:=by intro u hu;simp at hu;subst hu;rfl
 have hS:Sep G W (RowE (α:=Int) own Ti v l::Rs) w:=hS0.sel 2 [0] (Nat.le_add_left _ _) rfl rfl
 have hR:Sep G W Rs w:=hS.sel 1 [] (Nat.le_add_left _ _) rfl rfl
 obtain⟨hin,hsm,hc⟩:=hS.intRow
 have hin': ∀y∈l.take i++x::l.drop i,InR y:=by
  intro y hy
  rcases List.mem_append.1 hy with h|h
  ·exact hin y (List.mem_of_mem_take h)
  ·rcases List.mem_cons.1 h with rfl|h
   ·exact hx
   ·exact hin y (List.mem_of_mem_drop h)
 have hlen:(l.take i++x::l.drop i).length=l.length+1:=by simp;omega
 have hsm':(l.take i++x::l.drop i).length*8≤140737488355328:=by rw[hlen];exact hbig
 have hml:l.length+1≤maxLen:=by unfold maxLen;omega
 have henc:yy (l.take i++x::l.drop i)=yy (l.take i)++[.int .i64 x]++yy (l.drop i):=by simp[yy]
 have hend:i=l.length→yy (l.take i++x::l.drop i)=yy l++[.int .i64 x]:=fun e=>by subst e;rw[henc,List.take_length,List.drop_length];simp[yy]
 have grow: ∀(base:Option Addr) (c:Nat),v=.slice base l.length c→i=l.length→c<l.length+1→l.length≤c→(base=none→l.length=0)→(∀a,base=some a→ ∀j u,(yy l)[j]? =some u→w.cell? (a.add j)=some u)→
  Ret P (ρ.f 21) [v,.int .i64 ((i:Nat):Int),.slice (some ⟨b,0,none⟩) 1 1] w (fun r w'=>Sep G W (RowE (α:=Int) own Ti r (l.take i++x::l.drop i)::Rs) w'):=by
  intro base c hv hil hcl hlc hnil hcs
  have h:=Any2.slices_Insert_int_end_grow L base l.length c b 0 1 1 (yy l) [.int .i64 x] w (by omega) hlc hcl hbig (yu l) rfl hnil hcs hvs h1v
  subst hv
  refine Calls.mono (by subst hil;exact h) ?_
  rintro e w' ⟨rfl,rfl⟩
  refine⟨_,rfl,?_⟩
  rw[hTi]
  have hg:=grownCap_ge w (l.length+1) c Ti
  have hgm:=grownCap_le_maxLen w (l.length+1) c Ti hml
  have hn:=QS w (.cells ((yy l++[Value.int .i64 x]).toArray++Builtin.zeroCells (Value.int .i64 0).cells (grownCap w (l.length+1) c Ti-(l.length+1))) Ti)
  have:=hR.intNew' hn (cap:=grownCap w (l.length+1) c Ti) (l':=l.take i++x::l.drop i) (by rw[hlen];exact hg) ?_ hgm ?_ hin' hsm'
  ·rw[hlen]at this;exact this
  ·simp only[Array.toList_append,List.length_append,yu,Jb,List.length_cons,List.length_nil];omega
  ·rw[hlen,hend hil]
   simp only[Array.toList_append]
   rw[List.take_append_of_le_length (by simp[yu])]
   exact List.take_of_length_le (by simp[yu])
 rcases hc with⟨rfl,rfl⟩|⟨g,cap,cur,rfl,hg,hlc,hcm,hcs,ht,back⟩
 ·exact grow none 0 rfl (by simpa using hi) (by simp) (by simp) (fun _=>rfl) (fun a h=>by cases h)
 ·have hne:b≠g:=by
   obtain⟨f1,f2,hA,hB,hd,_,_⟩:=hS0.apart2 (i:=0) (j:=1) rfl rfl (by decide)
   obtain⟨_,_,_,hrow,_⟩:=hA
   exact fun e=>hd g (hrow g rfl) (e▸hB.2)
  have hcells: ∀j u,(yy l)[j]? =some u→w.cell? ⟨g,0+j,none⟩=some u:=fun j u hu=>by
   rw[Nat.zero_add]
   refine Qb hg ?_
   rw[←ht,List.getElem?_take]at hu
   split at hu
   ·exact hu
   ·cases hu
  have hlc':cur.toList.length=cap:=by simpa using hcs
  have hcell: ∀j,j<cap→(w.cell? ⟨g,0+j,none⟩).isSome=true:=fun j hj=>by
   rw[Nat.zero_add,Qb hg (List.getElem?_eq_getElem (by omega))];rfl
  have hfz: ∀j,w.frozen? ⟨g,j,none⟩=false:=fun j=>by simp[World.frozen?,hg]
  by_cases hil:i=l.length
  ·by_cases hroom:l.length+1≤cap
   ·have h:=Any2.slices_Insert_int_end_room L g 0 l.length cap b 0 1 1 [.int .i64 x] w (by omega) hroom (by unfold maxLen at hcm;omega) rfl (fun j hj=>by rw[Nat.add_assoc];exact hcell _ (by omega)) (fun j _=>hfz _) hvs h1v
    refine Calls.mono (by subst hil;exact h) ?_
    rintro e w' ⟨rfl,rfl⟩
    refine⟨_,rfl,?_⟩
    have hw:=xr [.int .i64 x] (0+l.length) w cur hg
    rw[Nat.zero_add,ZY _ _ _ (by simp only[List.length_cons,List.length_nil];omega)]at hw
    rw[Nat.zero_add]
    refine back _ _ _ _ hw (by rw[hlen]) (by rw[hlen];exact hroom) (by simp;omega) ?_ hin' hsm'
    rw[hlen,hend hil,ht,List.take_append_of_le_length (by simp[yu])]
    exact List.take_of_length_le (by simp[yu])
   ·exact grow (some ⟨g,0,none⟩) cap rfl hil (by omega) hlc (fun h=>by cases h) (fun a ha j u hu=>by cases ha;rw[ZQ];exact hcells j u hu)
  ·have hlt:i<l.length:=by omega
   have ed:(yy l).drop i=yy (l.drop i):=by simp[yy,List.map_drop]
   have et:(yy l).take i=yy (l.take i):=by simp[yy,List.map_take]
   by_cases hroom:l.length+1≤cap
   ·have h:=Any2.slices_Insert_int_shift L g 0 l.length cap i b 0 1 1 (yy l) [.int .i64 x] w hlt (by omega) hroom (by unfold maxLen at hcm;omega) hne (yu l) rfl hcells (fun j hj=>hcell j (by omega)) (fun j _=>by rw[Nat.zero_add];exact hfz _) hvs (Ud l) h1v
     Ti Ti 1 cap (by simp[World.shape?,hb]) (by simp[World.shape?,hg,hcs]) (by omega) (by simp[World.frozen?,hb]) (by simp[World.frozen?,hb])
    refine Calls.mono h ?_
    rintro e w' ⟨rfl,rfl⟩
    refine⟨_,rfl,?_⟩
    have h1:=Wr.drew hg
    obtain⟨a1,e1,hg1⟩:=h1.at_
    have h2:=xr ((yy l).drop i) (0+(i+1)) w.drew a1 hg1
    rw[e1,Nat.zero_add,ZY _ _ _ (by simp only[List.length_drop,yu];omega)]at h2
    obtain⟨a2,e2,hg2⟩:=h2.at_
    have h3:=xr [.int .i64 x] (0+i) _ a2 hg2
    rw[e2,Nat.zero_add,ZY _ _ _ (by simp only[List.length_append,List.length_take,List.length_drop,yu,List.length_cons,List.length_nil];omega)]at h3
    rw[Nat.zero_add,Nat.zero_add]
    refine back _ _ _ _ ((h1.trans h2).trans h3) (by rw[hlen]) (by rw[hlen];exact hroom) (by simp[yu];omega) ?_ hin' hsm'
    rw[hlen,henc,ed]
    have k1:(cur.toList.take (i+1)++yy (l.drop i)++cur.toList.drop (i+1+(yy (l.drop i)).length)).take i=yy (l.take i):=by
     rw[List.append_assoc,List.take_append_of_le_length (by simp;omega),List.take_take,Nat.min_eq_left (by omega),←et,←ht,List.take_take,Nat.min_eq_left (by omega)]
    have k2:(cur.toList.take (i+1)++yy (l.drop i)++cur.toList.drop (i+1+(yy (l.drop i)).length)).drop (i+[Value.int .i64 x].length)=yy (l.drop i)++cur.toList.drop (i+1+(yy (l.drop i)).length):=by
     have hh:(cur.toList.take (i+1)).length=i+1:=by rw[List.length_take];omega
     show(cur.toList.take (i+1)++yy (l.drop i)++cur.toList.drop (i+1+(yy (l.drop i)).length)).drop (i+1)=_
     rw[List.append_assoc];exact List.drop_left' hh
    rw[k1,k2,←List.append_assoc,List.take_append_of_le_length (by simp[yu];omega)]
    exact List.take_of_length_le (by simp[yu];omega)
   ·have h:=Any2.slices_Insert_int_grow L g 0 l.length cap i b 0 1 1 (yy l) [.int .i64 x] w hlt (by omega) hlc (by omega) hbig (yu l) rfl hcells hvs (Ud l) h1v
    refine Calls.mono h ?_
    rintro e w' ⟨rfl,rfl⟩
    refine⟨_,rfl,?_⟩
    rw[hTi]
    have hg':=grownCap_ge w (l.length+1) cap Ti
    have hgm:=grownCap_le_maxLen w (l.length+1) cap Ti hml
    obtain⟨gc,hgc⟩: ∃gc,gc=grownCap w (l.length+1) cap Ti:=⟨_,rfl⟩
    rw[←hgc]at hg' hgm⊢
    have hn:=Uo w (.cells (((yy l).take i).toArray++Builtin.zeroCells (Value.int .i64 0).cells (l.length+1-i)++Builtin.zeroCells (Value.int .i64 0).cells (gc-(l.length+1))) Ti)
    have hlen0:(((yy l).take i).toArray++Builtin.zeroCells (Value.int .i64 0).cells (l.length+1-i)++Builtin.zeroCells (Value.int .i64 0).cells (gc-(l.length+1))).toList.length=gc:=by
     simp only[Array.toList_append,List.length_append,Jb,List.length_take,yu];omega
    have htk0:(((yy l).take i).toArray++Builtin.zeroCells (Value.int .i64 0).cells (l.length+1-i)++Builtin.zeroCells (Value.int .i64 0).cells (gc-(l.length+1))).toList.take i=yy (l.take i):=by
     simp only[Array.toList_append]
     rw[List.append_assoc,List.take_append_of_le_length (by simp[yu];omega),et]
     exact List.take_of_length_le (by simp[yu];omega)
    obtain⟨A0,hA0⟩: ∃A0,A0=((yy l).take i).toArray++Builtin.zeroCells (Value.int .i64 0).cells (l.length+1-i)++Builtin.zeroCells (Value.int .i64 0).cells (gc-(l.length+1)):=⟨_,rfl⟩
    rw[←hA0]at hn hlen0 htk0⊢
    have h1:=Wr.drew hn.at_
    obtain⟨a1,e1,hg1⟩:=h1.at_
    have h2:=xr [.int .i64 x] i _ a1 hg1
    rw[e1,ZY _ _ _ (by simp only[List.length_cons,List.length_nil];omega)]at h2
    obtain⟨a2,e2,hg2⟩:=h2.at_
    have h3:=Wr.drew hg2
    obtain⟨a3,e3,hg3⟩:=h3.at_
    have h4:=xr ((yy l).drop i) (i+1) _ a3 hg3
    have hl2:(A0.toList.take i++[Value.int .i64 x]++A0.toList.drop (i+[Value.int .i64 x].length)).length=gc:=by
     simp only[List.length_append,List.length_take,List.length_drop,List.length_cons,List.length_nil];omega
    rw[e3,e2,ZY _ _ _ (by rw[hl2];simp only[List.length_drop,yu];omega)]at h4
    have hpre:(A0.toList.take i++[Value.int .i64 x]++A0.toList.drop (i+[Value.int .i64 x].length)).take (i+1)=A0.toList.take i++[Value.int .i64 x]:=by
     have hh:(A0.toList.take i++[Value.int .i64 x]).length=i+1:=by rw[List.length_append,List.length_take,List.length_cons,List.length_nil];omega
     exact List.take_left' hh
    have:=hR.intNew hn (((h1.trans h2).trans h3).trans h4) (cap:=gc) (l':=l.take i++x::l.drop i) (by rw[hlen];exact hg') ?_ hgm ?_ hin' hsm'
    ·rw[hlen]at this;exact this
    ·simp only[List.length_append,List.length_take,List.length_drop,hl2,yu];omega
    ·rw[hlen,henc,hpre,htk0,ed,List.take_append_of_le_length (by simp[yu];omega)]
     exact List.take_of_length_le (by simp[yu];omega)
theorem XT (d:List Int)(c:Array Value)(h:d.length≤c.size):(putCells (Value.int .i64) 0 d.toArray c).toList=yy d++c.toList.drop d.length:=by
 refine List.ext_getElem (by simp[putCells,yy];omega) (fun j h1 h2=>?_)
 have hj:j<c.size:=by simpa[putCells]using h1
 by_cases hd:j<d.length
 ·rw[List.getElem_append_left (by simpa[yy]using hd)]
  simp[putCells,yy,hd]
 ·rw[List.getElem_append_right (by simp[yy];omega)]
  simp[putCells,yy,hd,show d.length+(j-d.length)=j by omega]
theorem QH {b:Nat}{a:Array Value}{T:TypeId}(h:w.heap[b]? =some (.cells a T))(d:List Int)(hd:d.length≤a.size):Wr w (putRow (Value.int .i64) w b 0 d.toArray) b (yy d++a.toList.drop d.length) T:=by
 refine⟨⟨putCells (Value.int .i64) 0 d.toArray a,XT d a hd,?_⟩,fun i hi=>?_,by simp,rfl,rfl,rfl,Nat.le_refl _⟩
 ·simp[putRow,mapBlock,Array.getElem?_modify,h,onCells]
 ·simp only[putRow,mapBlock,Array.getElem?_modify];rw[if_neg (fun e=>hi e.symm)]
theorem zam {P:Program}{ρ:Go.Shelf.Ren}(L:Go.Proofs.Lays2.n23 P ρ){i:Nat}(hS:Sep G W (RowE (α:=Int) own Ti v l::Rs) w)(hi:i<l.length):
 Ret P (ρ.f 23) [v,.int .i64 ((i:Nat):Int),.int .i64 ((i+1:Nat):Int)] w (fun r w'=>Sep G W (RowE (α:=Int) own Ti r (l.take i++l.drop (i+1))::Rs) w'):=by
 obtain⟨hin,hsm,hc⟩:=hS.intRow
 rcases hc with⟨rfl,rfl⟩|⟨g,cap,cur,rfl,hg,hlc,hcm,hcs,ht,back⟩
 ·exact absurd hi (Nat.not_lt_zero i)
 ·have hH:Holds (Value.int .i64) w g 0 l.toArray:=by
   intro j hj
   have hj':j<l.length:=by simpa using hj
   refine⟨?_,by simp[World.frozen?,hg]⟩
   rw[Nat.zero_add]
   refine Qb hg ?_
   have:(yy l)[j]? =some (.int .i64 l[j]):=by simp[yy,hj']
   rw[←ht,List.getElem?_take,if_pos hj']at this
   rw[this]
   simp[hj']
  have h:=Any.slices_Delete_int L g 0 cap i (i+1) l w hH hlc (by unfold maxLen at hcm;omega) (by omega) hi
  refine Calls.mono h ?_
  rintro e w' ⟨rfl,q,rfl⟩
  refine⟨_,rfl,?_⟩
  have h1:=Wr.ahead (q:=q) hg
  obtain⟨a1,e1,hg1⟩:=h1.at_
  have ha1:a1.size=cap:=by have:=congrArg List.length e1;simpa[hcs]using this
  have hdl:(l.take i++l.drop (i+1)++List.replicate (i+1-i) 0).length=l.length:=by simp;omega
  have h2:=QH hg1 (l.take i++l.drop (i+1)++List.replicate (i+1-i) 0) (by rw[hdl];omega)
  have hlen:(l.take i++l.drop (i+1)).length=l.length-(i+1-i):=by simp;omega
  refine back _ _ _ _ (h1.trans h2) (by rw[hlen]) (by rw[hlen];omega) ?_ ?_ (fun x hx=>?_) (by rw[hlen];omega)
  ·have ha2:a1.toList.length=cap:=by simpa using ha1
   rw[List.length_append,yu,hdl,List.length_drop,ha2];omega
  ·rw[hlen,Kq,List.append_assoc,List.take_append_of_le_length (by rw[yu,hlen];exact Nat.le_refl _)]
   exact List.take_of_length_le (by rw[yu,hlen];exact Nat.le_refl _)
  ·rcases List.mem_append.1 hx with h|h
   ·exact hin x (List.mem_of_mem_take h)
   ·exact hin x (List.mem_of_mem_drop h)
end
end
end Go.Proofs.YtbbabhaalmkbkaaGreatDoor
