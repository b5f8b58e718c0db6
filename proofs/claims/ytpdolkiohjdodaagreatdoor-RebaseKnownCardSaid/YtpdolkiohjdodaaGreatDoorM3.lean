import Derived.Test.YtpdolkiohjdodaaGreatDoorProg
import Derived.Test.YtpdolkiohjdodaaGreatDoorM2
import Derived.Shelf.Spec.SlicesInsertGrow
import Derived.Shelf.Slices.Delete
set_option maxRecDepth 8000
set_option maxHeartbeats 4000000
set_option linter.unusedSimpArgs false
set_option linter.unusedVariables false
set_option linter.unusedSectionVars false
set_option linter.deprecated false
open Go.Proofs.Tryz renaming sizeOf3→kT,isAgg3→lT,underlying3→mT,underlying53→nT,underlying55→oT,underlying181→pT,sizeOf4→qT,underlying73→rT,underlying80→sT,underlying46→tT,underlying184→uT,underlying87→vT,sizeOf53→wT,underlying90→kR,underlying118→lR,sizeOf25→mR,underlying38→nR,isAgg184→oR,sizeOf184→pR,call130→qR,isAgg4→rR,isAgg53→sR,sizeOf87→tR,underlying57→uR,underlying70→vR,underlying96→wR,underlying4→kY,zeroValue3→lY,sizeOf105→mY,results142→nY,sizeOf90→oY,zeroValue179→pY,results98→qY,sizeOf46→rY,underlying105→sY,underlying179→tY,underlying25→uY,sizeOf52→vY,underlying52→wY,underlying48→kA,sizeOf42→lA,underlying121→mA,sizeOf73→nA,sizeOf26→pA,underlying77→qA,underlying130→rA,underlying149→sA,results85→tA,results88→uA,underlying108→vA,isAgg46→wA,results128→kB,results133→lB,call131→mB,sizeOf179→nB,underlying0→pB,isAgg0→qB,sizeOf0→rB,zeroValue0→sB,zeroValue4→tB,zeroValue53→uB
namespace Go.Proofs.YtpdolkiohjdodaaGreatDoor
variable {G:Nat→Prop}{W w:World}{Rs:List HP}
section
open Go.Proofs Go.RowKit
abbrev zo:= @CellsAt.all
abbrev zv:= @RdS.base
abbrev zY:= @Nat.zero_le
abbrev xq:= @Nat.le_add_left
abbrev yO:= @Nat.not_lt_zero
abbrev zr:= @Eq.trans
abbrev yQ:= @Nat.le_of_ble_eq_true
theorem zl:True:=trivial
theorem ifpC.{u}{c:Prop}{h:Decidable c}(hc:c){α:Sort u}{t e:α}:ite c t e=t:=if_pos hc
theorem ifnC.{u}{c:Prop}{h:Decidable c}(hc: ¬c){α:Sort u}{t e:α}:ite c t e=e:=if_neg hc
theorem yc {c:Prop}[Decidable c]{α:Type}{x:α}{y z:Value}{k:Nat}{R:(Nat→Value)→Prop}(h:c): ∀v:Nat→Value,v k=y→R v→x=x∧v k=ite c y z:=fun v e _=>⟨rfl,e.trans (if_pos h).symm⟩
theorem yd {c:Prop}[Decidable c]{y z:Value}{k:Nat}{R:(Nat→Value)→Prop}(h: ¬c): ∀v:Nat→Value,v k=z→R v→True∧v k=ite c y z:=fun v e _=>⟨trivial,e.trans (if_neg h).symm⟩
abbrev _root_.List.gd {α:Type}[Inhabited α](l:List α)(i:Nat):α:=l.getD i default
theorem rflB.{u,v}{α:Sort u}{β:Sort v}{a:α}{b:β}:a=a∧b=b:=⟨rfl,rfl⟩
theorem ifpA.{u}{c:Prop}[Decidable c]{α:Sort u}{t e:α}:c→ite c t e=t:=fun h=>if_pos h
theorem xR:((!true)=false)∧((!false)=true)∧(∀b,(false&&b)=false)∧(∀b,(true&&b)=b)∧(∀b,(b&&false)=false)∧(∀b,(b&&true)=b)∧(∀b,(false||b)=b)∧(∀b,(b||false)=b)∧(∀b,(true||b)=true)∧(∀b,(b||true)=true)∧((false=true)=False):=by simp
section
variable {d:Option Tmp}{ty:TypeId}{pos:String}{af:Array Edge}{g:Option (Nat×Bool)}{σ:Env}{w:World}{K:Value→World→Prop}{x:Operand}{b o:Nat}
theorem UW (hx:ev σ x=Ix b o)(h:K (Ix b (o+4)) w):opV Tryz.prog ⟨d,.fieldAddr 184 x 1,ty,pos,af,g⟩ σ w K:=zu uT rfl rfl (fun w=>⟨0,rY w⟩) hx h
theorem KR (hx:ev σ x=Ix b o)(h:K (Ix b (o+5)) w):opV Tryz.prog ⟨d,.fieldAddr 184 x 2,ty,pos,af,g⟩ σ w K:=zu uT rfl rfl (fun w=>⟨0,kT w⟩) hx h
theorem xa (hx:ev σ x=Ix b o)(h:K (Ix b (o+0)) w):opV Tryz.prog ⟨d,.fieldAddr 105 x 0,ty,pos,af,g⟩ σ w K:=zu sY rfl rfl (fun w=>⟨0,kT w⟩) hx h
theorem Zb (hx:ev σ x=Ix b o)(h:K (Ix b (o+6)) w):opV Tryz.prog ⟨d,.fieldAddr 184 x 3,ty,pos,af,g⟩ σ w K:=zu uT rfl rfl (fun w=>⟨0,kT w⟩) hx h
theorem WO (hx:ev σ x=Ix b o)(h:K (Ix b (o+0)) w):opV Tryz.prog ⟨d,.fieldAddr 184 x 0,ty,pos,af,g⟩ σ w K:=zu uT rfl rfl (fun w=>⟨3,tR w⟩) hx h
theorem Uo (hx:ev σ x=Ix b o)(h:K (Ix b (o+2)) w):opV Tryz.prog ⟨d,.fieldAddr 87 x 2,ty,pos,af,g⟩ σ w K:=zu vT rfl rfl (fun w=>⟨0,qT w⟩) hx h
theorem yY (hx:ev σ x=Ix b o)(h:K (Ix b (o+1)) w):opV Tryz.prog ⟨d,.fieldAddr 105 x 1,ty,pos,af,g⟩ σ w K:=zu sY rfl rfl (fun w=>⟨0,wT w⟩) hx h
theorem yT (hx:ev σ x=Ix b o)(h:K (Ix b (o+3)) w):opV Tryz.prog ⟨d,.fieldAddr 87 x 3,ty,pos,af,g⟩ σ w K:=zu vT rfl rfl (fun w=>⟨0,Tryz.sizeOf85 w⟩) hx h
theorem QQ (hx:ev σ x=Ix b o)(h:K (Ix b (o+0)) w):opV Tryz.prog ⟨d,.fieldAddr 90 x 0,ty,pos,af,g⟩ σ w K:=zu kR rfl rfl (fun w=>⟨0,kT w⟩) hx h
theorem Xp (hx:ev σ x=Ix b o)(h:K (Ix b (o+2)) w):opV Tryz.prog ⟨d,.fieldAddr 90 x 2,ty,pos,af,g⟩ σ w K:=zu kR rfl rfl (fun w=>⟨0,kT w⟩) hx h
theorem Km (hx:ev σ x=Ix b o)(h:K (Ix b (o+3)) w):opV Tryz.prog ⟨d,.fieldAddr 90 x 3,ty,pos,af,g⟩ σ w K:=zu kR rfl rfl (fun w=>⟨0,kT w⟩) hx h
theorem zcu (hx:ev σ x=Ix b o)(h:K (Ix b (o+0)) w):opV Tryz.prog ⟨d,.fieldAddr 179 x 0,ty,pos,af,g⟩ σ w K:=zu tY rfl rfl (fun w=>⟨0,Tryz.sizeOf176 w⟩) hx h
theorem yU (hx:ev σ x=Ix b o)(h:K (Ix b (o+0)) w):opV Tryz.prog ⟨d,.fieldAddr 83 x 0,ty,pos,af,g⟩ σ w K:=zu Tryz.underlying83 rfl rfl (fun w=>⟨0,Tryz.sizeOf81 w⟩) hx h
theorem Kh (hx:ev σ x=Ix b o)(h:K (Ix b (o+1)) w):opV Tryz.prog ⟨d,.fieldAddr 90 x 1,ty,pos,af,g⟩ σ w K:=zu kR rfl rfl (fun w=>⟨0,kT w⟩) hx h
theorem zct (hx:ev σ x=Ix b o)(h:K (Ix b (o+1)) w):opV Tryz.prog ⟨d,.fieldAddr 179 x 1,ty,pos,af,g⟩ σ w K:=zu tY rfl rfl (fun w=>⟨0,Tryz.sizeOf177 w⟩) hx h
theorem yH (hx:ev σ x=Ix b o)(h:K (Ix b (o+0)) w):opV Tryz.prog ⟨d,.fieldAddr 25 x 0,ty,pos,af,g⟩ σ w K:=zu uY rfl rfl (fun w=>⟨0,Tryz.sizeOf22 w⟩) hx h
theorem xJ (hx:ev σ x=Ix b o)(h:K (Ix b (o+1)) w):opV Tryz.prog ⟨d,.fieldAddr 25 x 1,ty,pos,af,g⟩ σ w K:=zu uY rfl rfl (fun w=>⟨0,Tryz.sizeOf23 w⟩) hx h
theorem xG (hx:ev σ x=Ix b o)(h:K (Ix b (o+0)) w):opV Tryz.prog ⟨d,.fieldAddr 87 x 0,ty,pos,af,g⟩ σ w K:=zu vT rfl rfl (fun w=>⟨0,kT w⟩) hx h
theorem Xs (hx:ev σ x=Ix b o)(h:K (Ix b (o+1)) w):opV Tryz.prog ⟨d,.fieldAddr 87 x 1,ty,pos,af,g⟩ σ w K:=zu vT rfl rfl (fun w=>⟨0,kT w⟩) hx h
theorem Kg (hx:ev σ x=Ix b o)(h:K (Ix b (o+0)) w):opV Tryz.prog ⟨d,.fieldAddr 73 x 0,ty,pos,af,g⟩ σ w K:=zu rT rfl rfl (fun w=>⟨0,kT w⟩) hx h
theorem zbn (hx:ev σ x=Ix b o)(h:K (Ix b (o+1)) w):opV Tryz.prog ⟨d,.fieldAddr 73 x 1,ty,pos,af,g⟩ σ w K:=zu rT rfl rfl (fun w=>⟨0,kT w⟩) hx h
theorem YJ (hx:ev σ x=Ix b o)(h:K (Ix b (o+2)) w):opV Tryz.prog ⟨d,.fieldAddr 73 x 2,ty,pos,af,g⟩ σ w K:=zu rT rfl rfl (fun w=>⟨0,kT w⟩) hx h
theorem Wk (hx:ev σ x=Ix b o)(h:K (Ix b (o+3)) w):opV Tryz.prog ⟨d,.fieldAddr 73 x 3,ty,pos,af,g⟩ σ w K:=zu rT rfl rfl (fun w=>⟨0,kT w⟩) hx h
theorem KF (hx:ev σ x=Ix b o)(h:K (Ix b (o+4)) w):opV Tryz.prog ⟨d,.fieldAddr 73 x 4,ty,pos,af,g⟩ σ w K:=zu rT rfl rfl (fun w=>⟨0,kT w⟩) hx h
theorem xW (hx:ev σ x=Ix b o)(h:K (Ix b (o+3)) w):opV Tryz.prog ⟨d,.fieldAddr 55 x 2,ty,pos,af,g⟩ σ w K:=zu oT rfl rfl (fun w=>⟨0,wT w⟩) hx h
theorem xe (hx:ev σ x=Ix b o)(h:K (Ix b (o+0)) w):opV Tryz.prog ⟨d,.fieldAddr 55 x 0,ty,pos,af,g⟩ σ w K:=zu oT rfl rfl (fun w=>⟨1,vY w⟩) hx h
theorem Xv (hx:ev σ x=Ix b o)(h:K (Ix b (o+0)) w):opV Tryz.prog ⟨d,.fieldAddr 52 x 0,ty,pos,af,g⟩ σ w K:=zu wY rfl rfl (fun w=>⟨0,kT w⟩) hx h
theorem XW (hx:ev σ x=Ix b o)(h:K (Ix b (o+1)) w):opV Tryz.prog ⟨d,.fieldAddr 52 x 1,ty,pos,af,g⟩ σ w K:=zu wY rfl rfl (fun w=>⟨0,kT w⟩) hx h
theorem WM (hx:ev σ x=Ix b o)(h:K (Ix b (o+0)) w):opV Tryz.prog ⟨d,.fieldAddr 193 x 0,ty,pos,af,g⟩ σ w K:=zu Tryz.underlying193 rfl rfl (fun w=>⟨0,kT w⟩) hx h
theorem xy (hx:ev σ x=Ix b o)(h:K (Ix b (o+8)) w):opV Tryz.prog ⟨d,.fieldAddr 55 x 7,ty,pos,af,g⟩ σ w K:=zu oT rfl rfl (fun w=>⟨0,kT w⟩) hx h
theorem Ze (hx:ev σ x=Ix b o)(h:K (Ix b (o+7)) w):opV Tryz.prog ⟨d,.fieldAddr 55 x 6,ty,pos,af,g⟩ σ w K:=zu oT rfl rfl (fun w=>⟨0,kT w⟩) hx h
theorem xo (hx:ev σ x=Ix b o)(h:K (Ix b (o+1)) w):opV Tryz.prog ⟨d,.fieldAddr 48 x 1,ty,pos,af,g⟩ σ w K:=zu kA rfl rfl (fun w=>⟨0,rY w⟩) hx h
theorem KQ (hx:ev σ x=Ix b o)(h:K (Ix b (o+0)) w):opV Tryz.prog ⟨d,.fieldAddr 118 x 0,ty,pos,af,g⟩ σ w K:=zu lR rfl rfl (fun w=>⟨1,mR w⟩) hx h
theorem xm (hx:ev σ x=Ix b o)(h:K (Ix b (o+4)) w):opV Tryz.prog ⟨d,.fieldAddr 55 x 3,ty,pos,af,g⟩ σ w K:=zu oT rfl rfl (fun w=>⟨0,kT w⟩) hx h
theorem xM (hx:ev σ x=Ix b o)(h:K (Ix b (o+6)) w):opV Tryz.prog ⟨d,.fieldAddr 55 x 5,ty,pos,af,g⟩ σ w K:=zu oT rfl rfl (fun w=>⟨0,kT w⟩) hx h
theorem Zc (hx:ev σ x=Ix b o)(h:K (Ix b (o+5)) w):opV Tryz.prog ⟨d,.fieldAddr 55 x 4,ty,pos,af,g⟩ σ w K:=zu oT rfl rfl (fun w=>⟨0,kT w⟩) hx h
theorem KY (hx:ev σ x=Ix b o)(h:K (Ix b (o+4)) w):opV Tryz.prog ⟨d,.fieldAddr 118 x 3,ty,pos,af,g⟩ σ w K:=zu lR rfl rfl (fun w=>⟨0,Tryz.sizeOf116 w⟩) hx h
theorem UA (hx:ev σ x=Ix b o)(h:K (Ix b (o+3)) w):opV Tryz.prog ⟨d,.fieldAddr 118 x 2,ty,pos,af,g⟩ σ w K:=zu lR rfl rfl (fun w=>⟨0,Tryz.sizeOf115 w⟩) hx h
theorem KL (hx:ev σ x=Ix b o)(h:K (Ix b (o+0)) w):opV Tryz.prog ⟨d,.fieldAddr 158 x 0,ty,pos,af,g⟩ σ w K:=zu Tryz.underlying158 rfl rfl (fun w=>⟨1,Tryz.sizeOf135 w⟩) hx h
theorem XZ (hx:ev σ x=Ix b o)(h:K (Ix b (o+0)) w):opV Tryz.prog ⟨d,.fieldAddr 48 x 0,ty,pos,af,g⟩ σ w K:=zu kA rfl rfl (fun w=>⟨0,kT w⟩) hx h
theorem UE (hx:ev σ x=Ix b o)(h:K (Ix b (o+2)) w):opV Tryz.prog ⟨d,.fieldAddr 118 x 1,ty,pos,af,g⟩ σ w K:=zu lR rfl rfl (fun w=>⟨0,lA w⟩) hx h
theorem xx (hx:ev σ x=Ix b o)(h:K (Ix b (o+0)) w):opV Tryz.prog ⟨d,.fieldAddr 57 x 0,ty,pos,af,g⟩ σ w K:=zu uR rfl rfl (fun w=>⟨9,Tryz.sizeOf55 w⟩) hx h
theorem UC (hx:ev σ x=Ix b o)(h:K (Ix b (o+2)) w):opV Tryz.prog ⟨d,.fieldAddr 55 x 1,ty,pos,af,g⟩ σ w K:=zu oT rfl rfl (fun w=>⟨0,kT w⟩) hx h
theorem Ki (hx:ev σ x=Ix b o)(h:K (Ix b (o+9)) w):opV Tryz.prog ⟨d,.fieldAddr 55 x 8,ty,pos,af,g⟩ σ w K:=zu oT rfl rfl (fun w=>⟨0,kT w⟩) hx h
theorem Vp (hx:ev σ x=Ix b o)(h:K (Ix b (o+10)) w):opV Tryz.prog ⟨d,.fieldAddr 57 x 1,ty,pos,af,g⟩ σ w K:=zu uR rfl rfl (fun w=>⟨0,qT w⟩) hx h
theorem zaI (hx:ev σ x=Ix b o)(h:K (Ix b (o+11)) w):opV Tryz.prog ⟨d,.fieldAddr 57 x 2,ty,pos,af,g⟩ σ w K:=zu uR rfl rfl (fun w=>⟨1,vY w⟩) hx h
theorem zcb (hx:ev σ x=Ix b o)(h:K (Ix b (o+0)) w):opV Tryz.prog ⟨d,.fieldAddr 121 x 0,ty,pos,af,g⟩ σ w K:=zu mA rfl rfl (fun w=>⟨4,nA w⟩) hx h
theorem zcw (hx:ev σ x=Ix b o)(h:K (Ix b (o+5)) w):opV Tryz.prog ⟨d,.fieldAddr 121 x 1,ty,pos,af,g⟩ σ w K:=zu mA rfl rfl (fun w=>⟨0,Tryz.sizeOf119 w⟩) hx h
theorem XU (hx:ev σ x=Ix b o)(h:K (Ix b (o+0)) w):opV Tryz.prog ⟨d,.fieldAddr 80 x 0,ty,pos,af,g⟩ σ w K:=zu sT rfl rfl (fun w=>⟨1,mR w⟩) hx h
theorem ZS (hx:ev σ x=Ix b o)(h:K (Ix b (o+3)) w):opV Tryz.prog ⟨d,.fieldAddr 80 x 2,ty,pos,af,g⟩ σ w K:=zu sT rfl rfl (fun w=>⟨0,pA w⟩) hx h
theorem YM (hx:ev σ x=Ix b o)(h:K (Ix b (o+1)) w):opV Tryz.prog ⟨d,.fieldAddr 77 x 1,ty,pos,af,g⟩ σ w K:=zu qA rfl rfl (fun w=>⟨0,Tryz.sizeOf75 w⟩) hx h
theorem Xw (hx:ev σ x=Ix b o)(h:K (Ix b (o+6)) w):opV Tryz.prog ⟨d,.fieldAddr 80 x 4,ty,pos,af,g⟩ σ w K:=zu sT rfl rfl (fun w=>⟨0,Tryz.sizeOf78 w⟩) hx h
theorem Kx (hx:ev σ x=Ix b o)(h:K (Ix b (o+2)) w):opV Tryz.prog ⟨d,.fieldAddr 80 x 1,ty,pos,af,g⟩ σ w K:=zu sT rfl rfl (fun w=>⟨0,kT w⟩) hx h
theorem Zw (hx:ev σ x=Ix b o)(h:K (Ix b (o+4)) w):opV Tryz.prog ⟨d,.fieldAddr 80 x 3,ty,pos,af,g⟩ σ w K:=zu sT rfl rfl (fun w=>⟨1,Tryz.sizeOf77 w⟩) hx h
theorem Vo (hx:ev σ x=Ix b o)(h:K (Ix b (o+0)) w):opV Tryz.prog ⟨d,.fieldAddr 77 x 0,ty,pos,af,g⟩ σ w K:=zu qA rfl rfl (fun w=>⟨0,Tryz.sizeOf74 w⟩) hx h
theorem zdD (hx:ev σ x=Ix b o)(h:K (Ix b (o+0)) w):opV Tryz.prog ⟨d,.fieldAddr 38 x 0,ty,pos,af,g⟩ σ w K:=zu nR rfl rfl (fun w=>⟨0,kT w⟩) hx h
theorem zdr (hx:ev σ x=Ix b o)(h:K (Ix b (o+1)) w):opV Tryz.prog ⟨d,.fieldAddr 38 x 1,ty,pos,af,g⟩ σ w K:=zu nR rfl rfl (fun w=>⟨0,kT w⟩) hx h
theorem zde (hx:ev σ x=Ix b o)(h:K (Ix b (o+2)) w):opV Tryz.prog ⟨d,.fieldAddr 38 x 2,ty,pos,af,g⟩ σ w K:=zu nR rfl rfl (fun w=>⟨0,kT w⟩) hx h
theorem zda (hx:ev σ x=Ix b o)(h:K (Ix b (o+3)) w):opV Tryz.prog ⟨d,.fieldAddr 38 x 3,ty,pos,af,g⟩ σ w K:=zu nR rfl rfl (fun w=>⟨0,qT w⟩) hx h
theorem ZD (hx:ev σ x=Ix b o)(h:K (Ix b (o+2)) w):opV Tryz.prog ⟨d,.fieldAddr 130 x 1,ty,pos,af,g⟩ σ w K:=zu rA rfl rfl (fun w=>⟨0,lA w⟩) hx h
theorem Yt (hx:ev σ x=Ix b o)(h:K (Ix b (o+0)) w):opV Tryz.prog ⟨d,.fieldAddr 130 x 0,ty,pos,af,g⟩ σ w K:=zu rA rfl rfl (fun w=>⟨1,mR w⟩) hx h
theorem xH (hx:ev σ x=Ix b o)(h:K (Ix b (o+5)) w):opV Tryz.prog ⟨d,.fieldAddr 149 x 1,ty,pos,af,g⟩ σ w K:=zu sA rfl rfl (fun w=>⟨0,Tryz.sizeOf67 w⟩) hx h
theorem WX (hx:ev σ x=Ix b o)(h:K (Ix b (o+2)) w):opV Tryz.prog ⟨d,.fieldAddr 70 x 2,ty,pos,af,g⟩ σ w K:=zu vR rfl rfl (fun w=>⟨0,kT w⟩) hx h
theorem Yf (hx:ev σ x=Ix b o)(h:K (Ix b (o+0)) w):opV Tryz.prog ⟨d,.fieldAddr 149 x 0,ty,pos,af,g⟩ σ w K:=zu sA rfl rfl (fun w=>⟨4,nA w⟩) hx h
theorem YF (hx:ev σ x=Ix b o)(h:K (Ix b (o+1)) w):opV Tryz.prog ⟨d,.fieldAddr 70 x 1,ty,pos,af,g⟩ σ w K:=zu vR rfl rfl (fun w=>⟨0,kT w⟩) hx h
theorem zaq (hx:ev σ x=Ix b o)(h:K (Ix b (o+0)) w):opV Tryz.prog ⟨d,.fieldAddr 70 x 0,ty,pos,af,g⟩ σ w K:=zu vR rfl rfl (fun w=>⟨0,kT w⟩) hx h
theorem YE (hx:ev σ x=Ix b o)(h:K (Ix b (o+3)) w):opV Tryz.prog ⟨d,.fieldAddr 96 x 2,ty,pos,af,g⟩ σ w K:=zu wR rfl rfl (fun w=>⟨0,pA w⟩) hx h
theorem zaa (hx:ev σ x=Ix b o)(h:K (Ix b (o+2)) w):opV Tryz.prog ⟨d,.fieldAddr 96 x 1,ty,pos,af,g⟩ σ w K:=zu wR rfl rfl (fun w=>⟨0,kT w⟩) hx h
theorem Vq (hx:ev σ x=Ix b o)(h:K (Ix b (o+0)) w):opV Tryz.prog ⟨d,.fieldAddr 96 x 0,ty,pos,af,g⟩ σ w K:=zu wR rfl rfl (fun w=>⟨1,mR w⟩) hx h
end
theorem yqb {p:Prop}(h:p:=by first|omega|(simp only[List.length_append,List.length_cons,List.length_nil,List.length_take,List.length_drop];omega)):p:=h
theorem yqa {p:Prop}(h:p:=by first|decide|(simp only[List.length_cons,List.length_nil];decide)):p:=h
theorem zdi {x:Int}(hx:InR x)(hS0:Sep G W Rs w):Ret Tryz.prog 150 [.int .i64 (x)] w (fun r w'=>r=(.bool false:Value)∧Sep G W Rs w'):=by
 refine zn Tryz.func150 rfl rfl ?_
 refine za (R0 fun _=>st (aS (.bool false) (zb (za (R0 fun _=>st (mV (Iv x) (st (mV (Iv x) (st (yy rfl rfl (st (aS (.bool (!decide (x=x))) (zb (zq (zU Tryz.results150 (show _=(.bool (!decide (x=x)):Value)from rfl) ?_)))))))))))))))
 refine⟨?_,hS0⟩
 simp
theorem zdy {x:Int}(hx:InR x)(hS0:Sep G W Rs w):Ret Tryz.prog 147 [.int .i64 (x)] w (fun r w'=>r=(.bool false:Value)∧Sep G W Rs w'):=by
 refine zn Tryz.func147 rfl rfl ?_
 refine za (R0 fun _=>st (aS (.bool false) (zb (za (R0 fun _=>st (mV (Iv x) (st (mV (Iv x) (st (yy rfl rfl (st (aS (.bool (!decide (x=x))) (zb (zq (zU Tryz.results147 (show _=(.bool (!decide (x=x)):Value)from rfl) ?_)))))))))))))))
 refine⟨?_,hS0⟩
 simp
theorem zdw {x:Int}(hx:InR x){y:Int}(hy:InR y)(hS0:Sep G W Rs w):Ret Tryz.prog 146 [.int .i64 (x),.int .i64 (y)] w (fun r w'=>r=(.bool (decide (x<y)):Value)∧Sep G W Rs w'):=by
 refine zn Tryz.func146 rfl rfl ?_
 refine za (R0 fun _=>st (aS (.bool false) (zb (za (zF kr (st (mV (Iv x) (st (cL Tryz.call150 (zdi (x:=x) hx hS0) ?_)))))))))
 rintro _ w1 ⟨rfl,c⟩
 refine st (mV (.bool false) (stx rfl rfl (stx rfl rfl (stx rfl rfl (st (yt rfl rfl (st (mV (.bool false) (sty rfl rfl (mV (Iv x) (sty rfl rfl (mV (Iv y) (sty rfl rfl (zK rfl rfl (st (yt rfl rfl (st (aS (.bool (decide (x<y))) (zb (zq (zU Tryz.results146 (show _=(.bool (decide (x<y)):Value)from rfl) ?_)))))))))))))))))))))
 refine⟨?_,c⟩
 simp
theorem D_sum {x:Int}(hx:InR x){y:Int}(hy:InR y)(hS0:Sep G W Rs w):Ret Tryz.prog 141 [.int .i64 (x),.int .i64 (y)] w (fun r w'=>r=(.bool ((decide (x<Zp (x+y))== decide (0<y))):Value)∧Sep G W Rs w'):=by
 refine zn Tryz.func141 rfl rfl ?_
 refine za (R0 fun _=>st (aS (.bool false) (zb (za (R0 fun _=>st (mV (Iv x) (st (mV (Iv y) (st (zO rfl rfl rfl (st (mV (Iv x) (st (xh rfl rfl (st (mV (Iv y) (st (xh rfl rfl (st (zcp kY rfl rfl (st (aS (.bool ((decide (x<(IntKind.i64.wrap (x+y))))== (decide (0<y)))) (zb (zq (zU Tryz.results141 rfl ?_)))))))))))))))))))))))))
 refine⟨?_,hS0⟩
 rfl
theorem QU:Elem Tryz.prog 53 3 1 8:=⟨nT,_,_,rfl,rfl,rfl,rfl,rfl⟩
theorem Yj {vl:Value}{l:List Int}(hl:RdS W G vl l)(hS0:Sep G W Rs w):Ret Tryz.prog 85 [vl] w (fun r w'=> ∃(v:Value),r=(v:Value)∧Sep G W ((RowE (α:=Int) own 3 v l)::Rs) w'):=by
 have hls:_*8≤_:=hl.small
 refine zn Tryz.func85 rfl rfl ?_
 refine za (R0 fun _=>st (aS Iz (zb (za (za (R0 fun _=>st (mV vl (st (ZG (v:=vl) nT rfl hl.sl (zb ?_))))))))))
 cases i:ZA vl
 refine ze rfl (zp (za (R0 fun _=>st (zH (c:=#[]) nT kT lY dc rfl kr ?_))))
 intro o p j
 refine st (mV vl ?_)
 have d:Sep G W ((RowE (α:=Int) own 3 (Iy p 0 0) [])::Rs) o:=Sep.blkRow (css:=[]) (hS0.new j) rfl trivial yqa
 have e:=d.r0
 refine st (xO (src:=own) (bytes:=8) d QU rfl rfl hl yqb rfl (hq':=fun _ _ h _ _=>WY h) ?_)
 intro b q a
 have a:Sep G W ((RowE (α:=Int) own 3 b l)::Rs) q:=a
 have f:=a.r0
 refine st (aS b (zb (zq (zU tA rfl ?_))))
 refine⟨b,rfl,a⟩
 have m:=YX hl.sl i
 refine zg rfl (za (R0 fun _=>st (aS Iz (zb (zq (zU tA rfl ?_))))))
 have g:Sep G W ((RowE (α:=Int) own 3 Iz [])::Rs) w:=hS0.rowNil own 3
 have n:=List.length_eq_zero_iff.1 m
 subst n
 refine⟨(Iz),rfl,g⟩
theorem el46:Elem Tryz.prog 46 105 2 32:=⟨tT,_,_,rfl,rfl,rfl,rfl,rfl⟩
theorem Vk {vl:Value}{l:List Cel}(hl:RdS W G vl l)(hS0:Sep G W Rs w):Ret Tryz.prog 88 [vl] w (fun r w'=> ∃(v:Value),r=(v:Value)∧Sep G W ((RowE (α:=Cel) (shr G W) 105 v l)::Rs) w'):=by
 have hls:_*32≤_:=hl.small
 refine zn Tryz.func88 rfl rfl ?_
 refine za (R0 fun _=>st (aS Iz (zb (za (za (R0 fun _=>st (mV vl (st (ZG (v:=vl) tT rfl hl.sl (zb ?_))))))))))
 cases i:ZA vl
 refine ze rfl (zp (za (R0 fun _=>st (zH (c:=#[]) tT mY Tryz.zeroValue105 dc rfl kr ?_))))
 intro o p j
 refine st (mV vl ?_)
 have d:Sep G W ((RowE (α:=Cel) (shr G W) 105 (Iy p 0 0) [])::Rs) o:=Sep.blkRow (css:=[]) (hS0.new j) rfl trivial yqa
 have e:=d.r0
 refine st (xO (src:=(shr G W)) (bytes:=32) d el46 rfl rfl hl yqb rfl (hq':=fun _ _ h _ _=>h) ?_)
 intro b q a
 have a:Sep G W ((RowE (α:=Cel) (shr G W) 105 b l)::Rs) q:=a
 have f:=a.r0
 refine st (aS b (zb (zq (zU uA rfl ?_))))
 refine⟨b,rfl,a⟩
 have m:=YX hl.sl i
 refine zg rfl (za (R0 fun _=>st (aS Iz (zb (zq (zU uA rfl ?_))))))
 have g:Sep G W ((RowE (α:=Cel) (shr G W) 105 Iz [])::Rs) w:=hS0.rowNil (shr G W) 105
 have n:=List.length_eq_zero_iff.1 m
 subst n
 refine⟨(Iz),rfl,g⟩
theorem Wb {vl:Value}{l:List Int}(hl:RdS W G vl l){x:Int}(hx:InR x)(hS0:Sep G W Rs w)(hasc:Asc l):Ret Tryz.prog 142 [vl,.int .i64 (x)] w (fun r w'=> ∃(ix:Nat),r=(.tuple #[.int .i64 ((ix:Nat):Int),.bool (decide (x∈l))]:Value)∧(ix≤l.length∧(∀q,q<ix→l.getD q 0<x)∧(∀q,ix≤q→q<l.length→x≤l.getD q 0))∧Sep G W Rs w'):=by
 have hls:_*8≤_:=hl.small
 refine zn Tryz.func142 rfl rfl ?_
 refine za (R0 fun _=>st (aS (Iv 0) (st (aS (.bool false) (zb (za (R0 fun _=>st (mV vl (st (zC nT rfl hl.sl (st (aS (Iw l.length) (zb (za (R0 fun _=>st (mV (Iw l.length) (st (aS (Iv 0) (st (aS (Iw l.length) (zb (za (zt (zZ (fun mq σ L=> ∃i j ρ,mq=j-i∧σ=yf ρ [(0,vl),(1,Iv x),(6,Iw l.length),(7,Iw i),(8,Iw j)]∧(i≤j∧j≤l.length)∧(∀q,q<i→l.getD q 0<x)∧(∀q,j≤q→q<l.length→x≤l.getD q 0)∧Sep G W Rs L) ⟨0,l.length,_,rfl,sSf,⟨zY _,Nat.le_refl _⟩,(fun q h=>absurd h (yO q)),(fun q h1 M=>absurd M om),hS0⟩ ?_))))))))))))))))))))))))
 rintro m2 σ3 w1 ⟨i,j,ρl1,rfl,rfl,hij,hlo,hhi,e⟩
 refine za (za (R0 fun _=>st (mV (Iw i) (st (mV (Iw j) (st (zK rfl rfl (zb ?_))))))))
 cases m:decide (((i:Nat):Int)<((j:Nat):Int))
 have m:=fD m
 refine ze rfl (ya (zR (za (zF kr (st (mV (Iw i) (st (mV (Iw i) (st (mV (Iw l.length) (st (zK rfl rfl (st (mV (.bool (decide (((i:Nat):Int)<((l.length:Nat):Int)))) ?_))))))))))))))
 cases g:decide (((i:Nat):Int)<((l.length:Nat):Int))
 have hg6r:=g
 have g:=fD g
 refine stx rfl rfl (stx rfl rfl (stx rfl rfl (stx rfl rfl (stx rfl rfl (stx rfl rfl (stx rfl rfl (stu rfl rfl (stu rfl rfl (stu rfl rfl (stu rfl rfl (stu rfl rfl (stu rfl rfl (stu rfl rfl (stu rfl rfl (stu rfl rfl (stx rfl rfl (st (yt rfl rfl (st (aS (Iw i) (st (aS (.bool false) (zb (zq (Kr nY (show _=(Iw i:Value)from rfl) (show _=(.bool false:Value)from rfl) ?_)))))))))))))))))))))))))
 refine⟨i,?_,?_,e⟩
 have c:i=j:=by omega
 subst c
 rw[UP hasc hij.2 hlo hhi]
 have hz:(decide (i<l.length)&&decide (l.getD i 0=x))=false:=by first|(rw[Bool.and_eq_true,decide_eq_true_eq,decide_eq_true_eq];omega)|(rw[Bool.and_eq_false_iff,decide_eq_false_iff_not,decide_eq_false_iff_not];omega)
 rw[hz]
 have c:i=j:=by omega
 subst c
 exact⟨hij.2,hlo,hhi⟩
 have g:=tD g
 refine sty rfl rfl (mV vl (sty rfl rfl (mV (Iw i) ?_)))
 have K:i<l.length:=by omega
 refine sty rfl rfl (zf (k:=1) nT kT rfl hl.sl rfl K ?_)
 have o:i<l.length:=bo
 obtain⟨p,D⟩:=hl.intD o
 have u:=e.cells p (hl.foot (ne_of_lt o))
 refine sty rfl rfl (lD (Iv ((l.getD i 0))) lT rfl (u.get (j:=0) rfl) (sty rfl rfl (mV (Iv x) (sty rfl rfl (zS rfl rfl (sty rfl rfl (mV (.bool (decide ((l.getD i 0)=x))) ?_)))))))
 cases f:decide ((l.getD i 0)=x)
 have hg11r:=f
 have f:=fD f
 refine sty rfl rfl (mV vl (sty rfl rfl (mV (Iw i) ?_)))
 have E:i<l.length:=bo
 refine sty rfl rfl (zf (k:=1) nT kT rfl hl.sl rfl E ?_)
 have z:=e.cells p (hl.foot (ne_of_lt o))
 refine sty rfl rfl (lD (Iv ((l.getD i 0))) lT rfl (z.get (j:=0) rfl) (sty rfl rfl (cL Tryz.call147 (zdy (x:=(l.getD i 0)) D e) ?_)))
 rintro _ w15 ⟨rfl,F⟩
 refine sty rfl rfl (mV (.bool false) (stx rfl rfl (stx rfl rfl (sty rfl rfl (yt rfl rfl (sty rfl rfl (yt rfl rfl (st (yC rfl rfl (st (aS (Iw i) (st (aS (.bool false) (zb (zq (Kr nY (show _=(Iw i:Value)from rfl) (show _=(.bool false:Value)from rfl) ?_))))))))))))))))
 refine⟨i,?_,?_,F⟩
 have c:i=j:=by omega
 subst c
 rw[UP hasc hij.2 hlo hhi]
 have hz:(decide (i<l.length)&&decide (l.getD i 0=x))=false:=by first|(rw[Bool.and_eq_true,decide_eq_true_eq,decide_eq_true_eq];omega)|(rw[Bool.and_eq_false_iff,decide_eq_false_iff_not,decide_eq_false_iff_not];omega)
 rw[hz]
 have c:i=j:=by omega
 subst c
 exact⟨hij.2,hlo,hhi⟩
 have f:=tD f
 refine stx rfl rfl (stx rfl rfl (stx rfl rfl (stx rfl rfl (stx rfl rfl (stx rfl rfl (stu rfl rfl (stu rfl rfl (stx rfl rfl (sty rfl rfl (yC rfl rfl (st (yC rfl rfl (st (aS (Iw i) (st (aS (.bool true) (zb (zq (Kr nY (show _=(Iw i:Value)from rfl) (show _=(.bool true:Value)from rfl) ?_)))))))))))))))))))
 refine⟨i,?_,?_,e⟩
 have c:i=j:=by omega
 subst c
 rw[UP hasc hij.2 hlo hhi]
 have hz:(decide (i<l.length)&&decide (l.getD i 0=x))=true:=by first|(rw[Bool.and_eq_true,decide_eq_true_eq,decide_eq_true_eq];omega)|(rw[Bool.and_eq_false_iff,decide_eq_false_iff_not,decide_eq_false_iff_not];omega)
 rw[hz]
 have c:i=j:=by omega
 subst c
 exact⟨hij.2,hlo,hhi⟩
 have m:=tD m
 refine zg rfl (zp (zt (za (R0 fun _=>st (mV (Iw i) (st (mV (Iw j) ?_)))))))
 have H:InR ((i+j:Nat):Int):=bo
 refine st (zO (r:=((i+j:Nat):Int)) rfl rfl (by rw[show(((i:Nat):Int)+((j:Nat):Int):Int)=((i+j:Nat):Int)from bo];exact zw H) (st (KA (k:=.i64) (k2:=.u64) (a:=((i+j:Nat):Int)) (r:=((i+j:Nat):Int)) (by rw[mT];rfl) vA rfl (Qj ⟨by omega,by omega⟩) (st (zdv (k:=.u64) (yk:=.u64) (a:=((i+j:Nat):Int)) (b:=1) (r:=(((i+j)/2:Nat):Int)) rfl rfl (by decide) (by decide) (by show((i+j:Nat):Int)/(2:Int)^(1:Nat)=(((i+j)/2:Nat):Int);omega) (st (KA (k:=.u64) (k2:=.i64) (a:=(((i+j)/2:Nat):Int)) (r:=(((i+j)/2:Nat):Int)) (by rw[vA];rfl) mT rfl (zw (by omega)) (st (aS (Iv ((((i+j)/2:Nat):Int))) (zb (za (zL (by kernel_rfl) (fun _=>(st (mV vl (st (mV (Iv ((((i+j)/2:Nat):Int))) ?_)))))))))))))))))
 have I:(i+j)/2<l.length:=by omega
 refine st (zf (k:=1) nT kT rfl hl.sl rfl I ?_)
 have s:(i+j)/2<l.length:=bo
 obtain⟨A,B⟩:=hl.intD s
 have C:=e.cells A (hl.foot (ne_of_lt s))
 refine st (lD (Iv ((l.getD ((i+j)/2) 0))) lT rfl (C.get (j:=0) rfl) (st (mV (Iv x) (st (cL Tryz.call146 (zdw (x:=(l.getD ((i+j)/2) 0)) (y:=x) B hx e) ?_)))))
 rintro _ w22 ⟨rfl,t⟩
 refine zb ?_
 cases d:decide ((l.getD ((i+j)/2) 0)<x)
 have d:=fD d
 refine ze rfl (R0 fun _=>st (mV (Iv ((((i+j)/2:Nat):Int))) (st (aS (Iv ((((i+j)/2:Nat):Int))) (zb ?_)))))
 exact⟨_,by omega,i,(i+j)/2,_,rfl,sSf,by omega,hlo,(bs_hi hasc om d),t⟩
 have d:=tD d
 refine zg rfl (R0 fun _=>st (mV (Iv ((((i+j)/2:Nat):Int))) ?_))
 have J:InR (((i+j)/2+1:Nat):Int):=bo
 refine st (zO (r:=(((i+j)/2+1:Nat):Int)) rfl rfl (by rw[show((((i+j)/2:Nat):Int)+1:Int)=(((i+j)/2+1:Nat):Int)from bo];exact zw J) (st (aS (Iw ((i+j)/2+1)) (zb ?_))))
 exact⟨_,by omega,(i+j)/2+1,j,_,rfl,sSf,by omega,(bs_lo hasc om d),hhi,t⟩
end
section
open Go.Proofs Go.RowKit
theorem yqc {a b:Nat}(h:Nat.ble a b=true:=by rfl):a≤b:=Nat.le_of_ble_eq_true h
theorem Un {a:AskR}{da0:Value}(hda0:RdS W G da0 a.fld.moves){da1:Value}(hda1:RdS W G da1 a.cls)(oa:a.Ok)(hS0:Sep G W Rs w)(hno:0≤a.no∧a.no<a.cls.length):Ret Tryz.prog 130 [.agg (a.cells da0 da1).toArray] w (fun r w'=>r=(.pointer (some ⟨sb da1,so da1+a.no.toNat*2,none⟩):Value)∧Sep G W Rs w'):=by
 refine zn Tryz.func130 rfl rfl ?_
 refine za (R0 fun _=>st (zX rfl ?_))
 intro w3 b2 c
 have b:=hS0.new c
 refine st (aS (.pointer none) (zb (za (R0 fun _=>st (UW rfl (st (lD da1 wA rfl (zd (b.b0) rfl) (st (KR rfl (st (lD (Iv (a.no)) lT rfl (zd (b.b0) rfl) ?_)))))))))))
 refine st (zB tT mY rfl hda1.sl rfl ⟨by omega,by omega⟩ (st (aS (Ix (sb da1) (so da1+a.no.toNat*2)) (zb (zq (zU Tryz.results130 rfl ?_))))))
 refine⟨rfl,(b.s1_)⟩
theorem QI {a:AskR}{da0:Value}(hda0:RdS W G da0 a.fld.moves){da1:Value}(hda1:RdS W G da1 a.cls)(oa:a.Ok)(hS0:Sep G W Rs w):Ret Tryz.prog 131 [.agg (a.cells da0 da1).toArray] w (fun r w'=>r=(.bool true:Value)∧Sep G W Rs w'):=by
 refine zn Tryz.func131 rfl rfl ?_
 refine za (R0 fun _=>st (zX rfl ?_))
 intro w3 b2 b
 refine st (aS (.bool false) (zb (za (R0 fun _=>st (aS (.bool true) (zb (zq (zU Tryz.results131 rfl ?_))))))))
 refine⟨rfl,((hS0.new b).s1_)⟩
theorem zat {a:AskR}{da0:Value}(hda0:RdS W G da0 a.fld.moves){da1:Value}(hda1:RdS W G da1 a.cls)(oa:a.Ok)(hS0:Sep G W Rs w)(hno:0≤a.no∧a.no<a.cls.length):Ret Tryz.prog 128 [.agg (a.cells da0 da1).toArray] w (fun r w'=>r=(.bool (xC a.fld a.cls (yE a.cls a.no) 1 a.arg):Value)∧Sep G W Rs w'):=by
 let n:=(a.cls.gd a.no.toNat).n
 let ae:=IntKind.i64.wrap (n+a.arg)
 let ac:=decide (n<Zp (n+a.arg))== decide (0<a.arg)
 let ab:=decide ((IntKind.i64.wrap (n+a.arg))<0)
 let ad:=a.fld.floor&&ab
 refine zn Tryz.func128 rfl rfl ?_
 refine za (R0 fun _=>st (zX rfl ?_))
 intro w3 b2 aa
 have E:=hS0.new aa
 refine st (aS (.bool false) (zb (za (R0 fun _=>st (zh oR pR rfl rfl (zo (E.b0)) ?_)))))
 refine st (cL qR (Un (a:=a) hda0 hda1 oa E bo) ?_)
 rintro _ w5 ⟨rfl,e⟩
 refine st (zm rfl (st (xa rfl ?_)))
 have F:a.no.toNat<a.cls.length:=bo
 obtain⟨H,m,C⟩:=hda1.celD F
 have D:=e.cells H (hda1.foot (ne_of_lt F))
 refine st (lD (Iv n) lT rfl (D.get (j:=0) rfl) (st (aS (Iv n) (zb (za (zF kr (st (Zb rfl (st (lD (Iv (a.arg)) lT rfl (zd (e.b0) rfl) (st (zS rfl rfl (st (mV (.bool (decide (a.arg=0))) (stc (V:=Iv n) rfl rfl (fun I=>?_) ?_)))))))))))))))
 exact mV (Iv n) rflB
 refine stc (V:=Ix b2 6) rfl rfl (fun J=>?_) ?_
 exact Zb rfl rflB
 refine stc (V:=Iv (a.arg)) rfl rfl (fun p=>?_) ?_
 exact lD (Iv (a.arg)) lT (ifpC p) (zd (e.b0) rfl) rflB
 cases c:decide (a.arg=0)
 have f:=c
 have c:=fD c
 refine sty rfl rfl (cL Tryz.call141 (D_sum C.n oa.arg e) ?_)
 rintro _ w18 ⟨rfl,i⟩
 refine st (yt rfl rfl (st (mV (.bool ac) (stc (V:=Ix b2 0) rfl rfl (fun K=>?_) ?_))))
 have L:=K
 exact WO rfl rflB
 refine stc (V:=Ix b2 2) rfl rfl (fun q=>?_) ?_
 have M:=q
 exact Uo (ifpC q) rflB
 refine stc (V:=.bool (a.fld.floor)) rfl rfl (fun s=>?_) ?_
 have N:=s
 exact lD (.bool (a.fld.floor)) rR (ifpC s) (zd (i.b0) rfl) rflB
 refine stc (V:=.bool (a.fld.floor)) rfl rfl (fun t=>?_) ?_
 have O:=t
 exact zP (ifpC t) rflB
 refine yZ (V:=Iv n) rfl rfl (fun u=>?_) ?_
 have P:=u.1
 exact mV (Iv n) rflB
 refine yZ (V:=Ix b2 6) rfl rfl (fun z=>?_) ?_
 have Q:=z.1
 exact Zb rfl rflB
 refine yZ (V:=Iv (a.arg)) rfl rfl (fun g=>?_) ?_
 have R:=g.1
 exact lD (Iv (a.arg)) lT (ifpC ⟨g.1,g.2⟩) (zd (i.b0) rfl) rflB
 refine yZ (V:=Iv ae) rfl rfl (fun d=>?_) ?_
 have S:=d.1
 exact zO (r:=IntKind.i64.wrap (n+a.arg)) (ifpC ⟨d.1,d.2⟩) (ifpC ⟨d.1,d.2⟩) rfl rflB
 refine yZ (V:=.bool ab) rfl rfl (fun h=>?_) ?_
 have T:=h.1
 exact zK (ifpC ⟨h.1,h.2⟩) rfl rflB
 refine stc (V:=.bool ad) rfl rfl (fun l=>?_) ?_
 have U:=l
 exact zx (ifpC l) (fun hbp=>(ifpC ⟨l,hbp⟩)) rflB
 refine stc (V:=.bool (!ad)) rfl rfl (fun A=>?_) ?_
 have X:=A
 exact yD (ifpC A) rflB
 refine st (zx rfl (fun hbp=>(ifpC hbp)) (st (aS (.bool (ac&&(!ad))) (zb (zq (zU kB rfl ?_))))))
 refine⟨?_,(i.s1_)⟩
 unfold xC
 rw[ifpC rfl,f]
 rfl
 have f:=c
 have c:=tD c
 refine stx rfl rfl (st (yC rfl rfl (st (mV (.bool true) (sty rfl rfl (WO rfl (sty rfl rfl (Uo rfl (sty rfl rfl (lD (.bool (a.fld.floor)) rR rfl (zd (e.b0) rfl) (sty rfl rfl (mV (.bool (a.fld.floor)) (stc (V:=Iv n) rfl rfl (fun hb48=>?_) ?_)))))))))))))
 exact mV (Iv n) rflB
 refine stc (V:=Ix b2 6) rfl rfl (fun hb50=>?_) ?_
 exact Zb rfl rflB
 refine stc (V:=Iv (a.arg)) rfl rfl (fun Y=>?_) ?_
 exact lD (Iv (a.arg)) lT (ifpC Y) (zd (e.b0) rfl) rflB
 refine stc (V:=Iv ae) rfl rfl (fun B=>?_) ?_
 exact zO (r:=IntKind.i64.wrap (n+a.arg)) (ifpC B) (ifpC B) rfl rflB
 refine stc (V:=.bool ab) rfl rfl (fun Z=>?_) ?_
 exact zK (ifpC Z) rfl rflB
 refine sty rfl rfl (zx rfl (fun hbp=>(ifpC hbp)) (sty rfl rfl (yD rfl (st (yC rfl rfl (st (aS (.bool (!ad)) (zb (zq (zU kB rfl ?_))))))))))
 refine⟨?_,(e.s1_)⟩
 unfold xC
 rw[ifpC rfl,f]
 rfl
theorem zba {a:AskR}{da0:Value}(hda0:RdS W G da0 a.fld.moves){da1:Value}(hda1:RdS W G da1 a.cls)(oa:a.Ok)(hS0:Sep G W Rs w)(hno:0≤a.no∧a.no<a.cls.length)(hasc:Asc (yE a.cls a.no).set):Ret Tryz.prog 133 [.agg (a.cells da0 da1).toArray] w (fun r w'=>r=(.bool (xC a.fld a.cls (yE a.cls a.no) 3 a.arg):Value)∧Sep G W Rs w'):=by
 let aE:=zT W (sb da1) (so da1+a.no.toNat*2+1)
 refine zn Tryz.func133 rfl rfl ?_
 refine za (R0 fun _=>st (zX rfl ?_))
 intro w3 b2 aD
 refine st (aS (.bool false) (zb (za ?_)))
 refine WD4 ((fun L=>WF [fun vals M=>Sep G W (L::Rs) M,fun vals M=>(vals 1=(Ix (sb da1) (so da1+a.no.toNat*2):Value))∧Sep G W (L::Rs) M,fun vals M=> ∃c,(vals 1=(Ix (sb da1) (so da1+a.no.toNat*2):Value))∧(vals 7=(.tuple #[Iw c,.bool (decide (a.arg∈((a.cls.gd a.no.toNat).set)))]:Value))∧(c≤((a.cls.gd a.no.toNat).set).length∧(∀q,q<c→((a.cls.gd a.no.toNat).set).getD q 0<a.arg)∧(∀q,c≤q→q<((a.cls.gd a.no.toNat).set).length→a.arg≤((a.cls.gd a.no.toNat).set).getD q 0))∧Sep G W (L::Rs) M]) (Blk b2 (a.cells da0 da1).toArray 184)) (AF [Vl 0 (.agg (a.cells da0 da1).toArray),fun _=>True,Vl 2 (Ix (sb da1) (so da1+a.no.toNat*2)),Vl 3 (Ix (sb da1) (so da1+a.no.toNat*2+1)),Vl 4 aE,Vl 5 (Ix b2 6),Vl 6 (Iv (a.arg)),fun _=>True,fun vals=> ∀(c:Nat),vals 7=(.tuple #[Iw c,.bool (decide (a.arg∈((a.cls.gd a.no.toNat).set)))]:Value)→vals 8=(.tuple #[Iw c,.bool (decide (a.arg∈((a.cls.gd a.no.toNat).set)))]:Value),fun vals=> ∀(c:Nat),vals 7=(.tuple #[Iw c,.bool (decide (a.arg∈((a.cls.gd a.no.toNat).set)))]:Value)→vals 9=(Iw c:Value),Vl 10 (.bool (decide (a.arg∈((a.cls.gd a.no.toNat).set)))),fun vals=> ∀(c:Nat),vals 7=(.tuple #[Iw c,.bool (decide (a.arg∈((a.cls.gd a.no.toNat).set)))]:Value)→vals 11=(Iw c:Value),Vl 12 (.bool (decide (a.arg∈((a.cls.gd a.no.toNat).set))))]) [[],[0],[0,1],[0,1,2],(rg 4),[],[5],(rg 7),(rg 8),(rg 9),(rg 9),(rg 10),(rg 12)] [1,7] [(0,0),(0,0),(1,1),(1,1),(1,1),(0,1),(0,1),(1,1),(2,2),(2,2),(2,2),(2,2),(2,2)] (hS0.new aD) ⟨ob1 0 fun _ _ (U:Sep _ _ _ _) _=>obl rfl (zh oR pR rfl rfl (zo (U.b0)) dR),?_,?_,fun _ _ _ _ _ _ X=>obl rfl (yY (X 2 dc) dR),?_,fun _ _ _ _ _ _ _=>obl rfl (Zb rfl dR),?_,?_,?_,?_,?_,?_,fun _ _ _ _ _ _ Y=>obl rfl (zM (Y 10 dc) dR),zl⟩ ?_ (hlocA:=xi ⟨dA,dT,dA,dA,dA,dA,dA,dT,fun vals m p h=>fun c e=>(p 8 (.inl rfl)).trans (h c ((p 7 (.inr dc)).symm.trans e)),fun vals m p h=>fun c e=>(p 9 (.inl rfl)).trans (h c ((p 7 (.inr dc)).symm.trans e)),dA,fun vals m p h=>fun c e=>(p 11 (.inl rfl)).trans (h c ((p 7 (.inr dc)).symm.trans e)),dA,zl⟩)
 refine ob1 0 fun vals _ (aq:Sep _ _ _ _) ar=>(obl rfl ?_)
 refine(zW (vals:=[.agg (a.cells da0 da1).toArray]) rfl (yM ⟨(ar 0 dc),zl⟩) qR (Un (a:=a) hda0 hda1 oa aq bo) ?_)
 rintro _ w20 ⟨rfl,au⟩
 exact fun m p u=>⟨(zA p au),zl⟩
 refine ob1 1 fun _ _ Z _=>?_
 obtain⟨g,hS132⟩:=Z
 exact obl rfl (zm g dR)
 refine ob1 1 fun _ _ aa ab=>?_
 obtain⟨g,ac⟩:=aa
 refine obl rfl ?_
 have E:a.no.toNat<a.cls.length:=bo
 obtain⟨N,D,hoke148⟩:=hda1.celD E
 have O:=ac.cells N (hda1.foot (ne_of_lt E))
 exact lD aE sR (ab 3 dc) (O.get (j:=1) rfl) dR
 refine fun B _ _ av aw F H=>?_
 have hkk:=xE av aw
 rcases hkk with rfl|rfl
 have ad:=F
 exact obl rfl (lD (Iv (a.arg)) lT (H 5 dc) (zd (ad.b0) rfl) dR)
 obtain⟨g,ae⟩:=F
 exact obl rfl (lD (Iv (a.arg)) lT (H 5 dc) (zd (ae.b0) rfl) dR)
 refine ob1 1 fun vals _ ax P=>?_
 obtain⟨g,Q⟩:=ax
 refine obl rfl ?_
 have R:a.no.toNat<a.cls.length:=bo
 obtain⟨af,A,hoke72⟩:=hda1.celD R
 refine(zW (vals:=[aE,Iv (a.arg)]) rfl (yM ⟨(P 4 dc),(P 6 dc),zl⟩) Tryz.call142 (Wb A oa.arg Q hasc) ?_)
 rintro _ w78 ⟨c,rfl,s,ay⟩
 exact fun m p u=>⟨(exiA c (zA ((u 1 dc).trans g) (zA p (zA s ay)))),zl⟩
 refine ob1 2 fun _ _ ag _=>?_
 obtain⟨c,g,d,s,hS174⟩:=ag
 refine obl rfl (zP d (fun m p u=>⟨rfl,?_⟩))
 intro I e
 rw[u 7 (by decide)]at e;cases d.symm.trans e
 exact p
 refine ob1 2 fun vals _ ah ai=>?_
 obtain⟨c,g,d,s,hS181⟩:=ah
 have az:=ai 8 dc c d
 refine obl rfl (zz az rfl (fun m p u=>⟨rfl,?_⟩))
 intro I e
 rw[u 7 (by decide)]at e;cases d.symm.trans e
 exact p
 refine ob1 2 fun vals _ aj ak=>?_
 obtain⟨c,g,d,s,hS189⟩:=aj
 have aA:=ak 8 dc c d
 exact obl rfl (zz aA rfl dR)
 refine ob1 2 fun vals _ al am=>?_
 obtain⟨c,g,d,s,hS197⟩:=al
 have aB:=am 9 dc c d
 refine obl rfl (zM aB (fun m p u=>⟨rfl,?_⟩))
 intro I e
 rw[u 7 (by decide)]at e;cases d.symm.trans e
 exact p
 intro vals w206 an ao
 obtain⟨c,g,d,s,C⟩:=an
 have aC:=ao 12 dc
 refine yg (kv:=[(0,.agg (a.cells da0 da1).toArray),(1,Ix b2 0),(2,.bool false),(4,.bool (decide (a.arg∈((a.cls.gd a.no.toNat).set))))]) ⟨rfl,rfl,rfl,(by exact aC),zl⟩ (fun ρw206=>(zb (za (zF kr (st (mV (.bool (decide (a.arg∈((a.cls.gd a.no.toNat).set)))) (st (mV (.bool (decide (a.arg∈((a.cls.gd a.no.toNat).set)))) (stc (V:=.agg (a.cells da0 da1).toArray) rfl rfl (fun ap=>?_) ?_)))))))))
 exact zh oR pR rfl rfl (zo (C.b0)) rflB
 cases t:decide (a.arg∈((a.cls.gd a.no.toNat).set))
 have y:=t
 have t:=fD t
 refine sty rfl rfl (cL qR (Un (a:=a) hda0 hda1 oa C bo) ?_)
 rintro _ w214 ⟨rfl,J⟩
 refine sty rfl rfl (zm rfl (sty rfl rfl (yY rfl ?_)))
 have K:a.no.toNat<a.cls.length:=bo
 obtain⟨S,z,hoke216⟩:=hda1.celD K
 have T:=J.cells S (hda1.foot (ne_of_lt K))
 refine sty rfl rfl (lD aE sR rfl (T.get (j:=1) rfl) (sty rfl rfl (zC nT rfl z.sl (sty rfl rfl (zK rfl rfl (st (yt rfl rfl (st (aS (.bool (decide (((((a.cls.gd a.no.toNat).set).length:Nat):Int)<64))) (zb (zq (zU lB (show _=(.bool (decide (((((a.cls.gd a.no.toNat).set).length:Nat):Int)<64)):Value)from rfl) ?_))))))))))))
 refine⟨?_,(J.s1_)⟩
 unfold xC
 rw[ifnC (by decide),ifpC rfl,show decide (a.arg∈(yE a.cls a.no).set)=_ from y]
 rfl
 have y:=t
 have t:=tD t
 refine stx rfl rfl (stx rfl rfl (stx rfl rfl (stx rfl rfl (stx rfl rfl (stx rfl rfl (st (yC rfl rfl (st (aS (.bool true) (zb (zq (zU lB rfl ?_))))))))))))
 refine⟨?_,(C.s1_)⟩
 unfold xC
 rw[ifnC (by decide),ifpC rfl,show decide (a.arg∈(yE a.cls a.no).set)=_ from y]
 rfl
theorem Jg {a:AskR}{da0:Value}(hda0:RdS W G da0 a.fld.moves){da1:Value}(hda1:RdS W G da1 a.cls)(oa:a.Ok)(hS0:Sep G W Rs w)(hno:0≤a.no∧a.no<a.cls.length)(hmv:0≤a.arg∧a.arg<a.fld.moves.length)(hnd:(Yg a.fld a.arg).need<0∨(Yg a.fld a.arg).need<a.cls.length):Ret Tryz.prog 136 [.agg (a.cells da0 da1).toArray] w (fun r w'=>r=(.bool (xC a.fld a.cls (yE a.cls a.no) 5 a.arg):Value)∧Sep G W Rs w'):=by
 let n:=(a.fld.moves.gd a.arg.toNat).cells
 have hda0s:_*32≤_:=hda0.small
 have hda1s:_*32≤_:=hda1.small
 have hnd1:(a.fld.moves.gd a.arg.toNat).need<0∨(a.fld.moves.gd a.arg.toNat).need<a.cls.length:=hnd
 refine zn Tryz.func136 rfl rfl ?_
 refine za (R0 fun _=>st (zX rfl ?_))
 intro w3 b2 ba
 have L:=hS0.new ba
 refine st (aS (.bool false) (zb (za (R0 fun _=>st (WO rfl (st (yT rfl (st (lD da0 Tryz.isAgg85 rfl (zd (L.b0) rfl) (st (Zb rfl (st (lD (Iv (a.arg)) lT rfl (zd (L.b0) rfl) ?_)))))))))))))
 have hi5:a.arg.toNat<a.fld.moves.length:=bo
 refine st (zB Tryz.underlying85 oY rfl hda0.sl rfl ⟨by omega,by omega⟩ ?_)
 have aN:a.arg.toNat<a.fld.moves.length:=bo
 obtain⟨aP,hoke6⟩:=hda0.mvD aN
 have aQ:=L.cells aP (hda0.foot (ne_of_lt aN))
 refine st (zh Tryz.isAgg90 oY rfl rfl aQ (st (zG Tryz.zeroValue90 ?_)))
 intro w11 D bb
 have ab:=L.new bb
 refine stn (zy (v:=.agg n.toArray) oY rfl rfl (ab.b0) (yo ⟨rfl,rfl,rfl,rfl,zl⟩) yqc rfl ?_)
 intro w13 aR
 refine zb (za ?_)
 refine WD4 ((fun TT aO=>WF [fun vals wq=>Sep G W (aO::TT) wq,fun vals wq=>(vals 1=(Ix (sb da1) (so da1+a.no.toNat*2):Value))∧Sep G W (aO::TT) wq]) ((Blk b2 (a.cells da0 da1).toArray 184)::Rs) (Blk D n.toArray 90)) (AF [Vl 0 (.agg (a.cells da0 da1).toArray),fun _=>True,Vl 2 (Ix (sb da1) (so da1+a.no.toNat*2)),Vl 3 (Ix (sb da1) (so da1+a.no.toNat*2)),Vl 4 (Iv ((a.cls.gd a.no.toNat).n)),Vl 5 (Ix D 0),Vl 6 (Iv ((a.fld.moves.gd a.arg.toNat).frm)),Vl 7 (.bool (decide (((a.cls.gd a.no.toNat).n)=((a.fld.moves.gd a.arg.toNat).frm)))),Vl 8 (.bool (decide (((a.cls.gd a.no.toNat).n)=((a.fld.moves.gd a.arg.toNat).frm)))),Vl 9 (if(decide (((a.cls.gd a.no.toNat).n)=((a.fld.moves.gd a.arg.toNat).frm)))=true then Ix D 2 else undef),Vl 10 (if(decide (((a.cls.gd a.no.toNat).n)=((a.fld.moves.gd a.arg.toNat).frm)))=true then Iv ((a.fld.moves.gd a.arg.toNat).need)else undef),Vl 11 (if(decide (((a.cls.gd a.no.toNat).n)=((a.fld.moves.gd a.arg.toNat).frm)))=true then .bool (decide (((a.fld.moves.gd a.arg.toNat).need)<0))else undef),Vl 12 (if(decide (((a.cls.gd a.no.toNat).n)=((a.fld.moves.gd a.arg.toNat).frm)))=true then .bool (decide (((a.fld.moves.gd a.arg.toNat).need)<0))else undef),Vl 13 (if((decide (((a.cls.gd a.no.toNat).n)=((a.fld.moves.gd a.arg.toNat).frm)))=true)∧(decide (((a.fld.moves.gd a.arg.toNat).need)<0))=false then Ix b2 4 else undef),Vl 14 (if((decide (((a.cls.gd a.no.toNat).n)=((a.fld.moves.gd a.arg.toNat).frm)))=true)∧(decide (((a.fld.moves.gd a.arg.toNat).need)<0))=false then da1 else undef),Vl 15 (if((decide (((a.cls.gd a.no.toNat).n)=((a.fld.moves.gd a.arg.toNat).frm)))=true)∧(decide (((a.fld.moves.gd a.arg.toNat).need)<0))=false then Ix D 2 else undef),Vl 16 (if((decide (((a.cls.gd a.no.toNat).n)=((a.fld.moves.gd a.arg.toNat).frm)))=true)∧(decide (((a.fld.moves.gd a.arg.toNat).need)<0))=false then Iv ((a.fld.moves.gd a.arg.toNat).need)else undef),Vl 17 (if((decide (((a.cls.gd a.no.toNat).n)=((a.fld.moves.gd a.arg.toNat).frm)))=true)∧(decide (((a.fld.moves.gd a.arg.toNat).need)<0))=false then Ix (sb da1) (so da1+(((a.fld.moves.gd a.arg.toNat).need).toNat)*2)else undef),Vl 18 (if((decide (((a.cls.gd a.no.toNat).n)=((a.fld.moves.gd a.arg.toNat).frm)))=true)∧(decide (((a.fld.moves.gd a.arg.toNat).need)<0))=false then Ix (sb da1) (so da1+(((a.fld.moves.gd a.arg.toNat).need).toNat)*2)else undef),Vl 19 (if((decide (((a.cls.gd a.no.toNat).n)=((a.fld.moves.gd a.arg.toNat).frm)))=true)∧(decide (((a.fld.moves.gd a.arg.toNat).need)<0))=false then Iv ((a.cls.gd (((a.fld.moves.gd a.arg.toNat).need).toNat)).n)else undef),Vl 20 (if((decide (((a.cls.gd a.no.toNat).n)=((a.fld.moves.gd a.arg.toNat).frm)))=true)∧(decide (((a.fld.moves.gd a.arg.toNat).need)<0))=false then Ix D 3 else undef),Vl 21 (if((decide (((a.cls.gd a.no.toNat).n)=((a.fld.moves.gd a.arg.toNat).frm)))=true)∧(decide (((a.fld.moves.gd a.arg.toNat).need)<0))=false then Iv ((a.fld.moves.gd a.arg.toNat).least)else undef),Vl 22 (if((decide (((a.cls.gd a.no.toNat).n)=((a.fld.moves.gd a.arg.toNat).frm)))=true)∧(decide (((a.fld.moves.gd a.arg.toNat).need)<0))=false then .bool (decide (((a.fld.moves.gd a.arg.toNat).least)≤((a.cls.gd (((a.fld.moves.gd a.arg.toNat).need).toNat)).n)))else undef),Vl 23 (if(decide (((a.cls.gd a.no.toNat).n)=((a.fld.moves.gd a.arg.toNat).frm)))=true then .bool ((decide (((a.fld.moves.gd a.arg.toNat).need)<0))||(decide (((a.fld.moves.gd a.arg.toNat).least)≤((a.cls.gd (((a.fld.moves.gd a.arg.toNat).need).toNat)).n))))else undef),Vl 24 (.bool ((decide (((a.cls.gd a.no.toNat).n)=((a.fld.moves.gd a.arg.toNat).frm)))&&((decide (((a.fld.moves.gd a.arg.toNat).need)<0))||(decide (((a.fld.moves.gd a.arg.toNat).least)≤((a.cls.gd (((a.fld.moves.gd a.arg.toNat).need).toNat)).n)))))),Vl 25 (.bool ((decide (((a.cls.gd a.no.toNat).n)=((a.fld.moves.gd a.arg.toNat).frm)))&&((decide (((a.fld.moves.gd a.arg.toNat).need)<0))||(decide (((a.fld.moves.gd a.arg.toNat).least)≤((a.cls.gd (((a.fld.moves.gd a.arg.toNat).need).toNat)).n))))))]) [[],[0],[0,1],[0,1,2],(rg 4),[],[5],(rg 7),(rg 8),(rg 9),(rg 10),(rg 11),(rg 12),(rg 13),(rg 14),(rg 13),[0,1,2,3,4,5,6,7,8,9,10,11,12,15],(rg 17),(rg 18),(rg 19),(rg 13),[0,1,2,3,4,5,6,7,8,9,10,11,12,20],(rg 22),(rg 23),(rg 24),(rg 25)] [1] [(0,0),(0,0),(1,1),(1,1),(1,1),(0,1),(0,1),(1,1),(1,1),(1,1),(1,1),(1,1),(1,1),(1,1),(1,1),(1,1),(1,1),(1,1),(1,1),(1,1),(1,1),(1,1),(1,1),(1,1),(1,1),(1,1)] (ab.pt0 aR) ⟨ob1 0 fun _ _ (ag:Sep _ _ _ _) _=>obl rfl (zh oR pR rfl rfl (zo (ag.b1)) dR),?_,?_,fun _ _ _ _ _ _ ah=>obl rfl (xa (ah 2 dc) dR),?_,fun _ _ _ _ _ _ _=>obl rfl (QQ rfl dR),?_,?_,fun _ _ _ _ _ _ ai=>obl rfl (zP (ai 7 dc) dR),?_,?_,?_,?_,?_,?_,?_,?_,?_,?_,?_,?_,?_,?_,?_,?_,fun _ _ _ _ _ _ aj=>obl rfl (zM (aj 24 dc) dR),zl⟩ ?_
 refine ob1 0 fun vals _ (aU:Sep _ _ _ _) aV=>(obl rfl ?_)
 refine(zW (vals:=[.agg (a.cells da0 da1).toArray]) rfl (yM ⟨(aV 0 dc),zl⟩) qR (Un (a:=a) hda0 hda1 oa aU bo) ?_)
 rintro _ w31 ⟨rfl,aW⟩
 exact fun c d hv'=>⟨(zA d aW),zl⟩
 refine ob1 1 fun _ _ ak _=>?_
 obtain⟨e,hS290⟩:=ak
 exact obl rfl (zm e dR)
 refine ob1 1 fun _ _ al am=>?_
 obtain⟨e,an⟩:=al
 refine obl rfl ?_
 have M:a.no.toNat<a.cls.length:=bo
 obtain⟨ac,J,hoke306⟩:=hda1.celD M
 have hsm308:((a.cls.gd a.no.toNat).set).length*8≤140737488355328:=J.small
 have ad:=an.cells ac (hda1.foot (ne_of_lt M))
 exact lD (Iv ((a.cls.gd a.no.toNat).n)) lT (am 3 dc) (ad.get (j:=0) rfl) dR
 refine fun E _ _ aX aY N O=>?_
 have hkk:=xE aX aY
 rcases hkk with rfl|rfl
 have ao:=N
 exact obl rfl (lD (Iv ((a.fld.moves.gd a.arg.toNat).frm)) lT (O 5 dc) (zd (ao.b0) rfl) dR)
 obtain⟨e,ap⟩:=N
 exact obl rfl (lD (Iv ((a.fld.moves.gd a.arg.toNat).frm)) lT (O 5 dc) (zd (ap.b0) rfl) dR)
 refine ob1 1 fun _ _ aq P=>?_
 obtain⟨e,hS332⟩:=aq
 exact obl rfl (zS (P 4 dc) (P 6 dc) dR)
 refine fun _ _ _ _ _ _ ar=>(zN rfl rfl (ar 8 dc) (fun C=>?_) yd)
 have hl350:=tD C
 exact Xp rfl (yc C)
 refine ob1 1 fun _ _ au Q=>?_
 obtain⟨e,av⟩:=au
 refine zN rfl rfl (Q 8 dc) (fun u=>?_) yd
 have hl361:=tD u
 exact lD (Iv ((a.fld.moves.gd a.arg.toNat).need)) lT (zr (Q 9 dc) (ifpC u)) (zd (av.b0) rfl) (yc u)
 refine ob1 1 fun _ _ aw R=>?_
 obtain⟨e,hS368⟩:=aw
 refine zN rfl rfl (R 8 dc) (fun x=>?_) yd
 have hl372:=tD x
 exact zK (zr (R 10 dc) (ifpC x)) rfl (yc x)
 refine fun _ _ _ _ _ _ S=>(zN rfl rfl (S 8 dc) (fun y=>?_) yd)
 have hl382:=tD y
 exact zP (zr (S 11 dc) (ifpC y)) (yc y)
 refine fun _ _ _ _ _ _ ax=>(xS rfl rfl (ax 12 dc) (fun z=>?_) yd)
 have hl391:=tD z.1
 have hl392:=fD z.2
 exact UW rfl (yc z)
 refine ob1 1 fun _ _ ay T=>?_
 obtain⟨e,az⟩:=ay
 refine xS rfl rfl (T 12 dc) (fun l=>?_) yd
 have hl403:=tD l.1
 have hl404:=fD l.2
 exact lD da1 wA (zr (T 13 dc) (ifpC ⟨l.1,l.2⟩)) (zd (az.b1) rfl) (yc l)
 refine fun _ _ _ _ _ _ aA=>(xS rfl rfl (aA 12 dc) (fun A=>?_) yd)
 have hl413:=tD A.1
 have hl414:=fD A.2
 exact Xp rfl (yc A)
 refine ob1 1 fun _ _ aB U=>?_
 obtain⟨e,aC⟩:=aB
 refine xS rfl rfl (U 12 dc) (fun m=>?_) yd
 have hl425:=tD m.1
 have hl426:=fD m.2
 exact lD (Iv ((a.fld.moves.gd a.arg.toNat).need)) lT (zr (U 15 dc) (ifpC ⟨m.1,m.2⟩)) (zd (aC.b0) rfl) (yc m)
 refine ob1 1 fun _ _ aD F=>?_
 obtain⟨e,hS433⟩:=aD
 refine xS rfl rfl (F 12 dc) (fun g=>?_) yd
 have hl438:=tD g.1
 have hl439:=fD g.2
 have hi440:((a.fld.moves.gd a.arg.toNat).need).toNat<a.cls.length:=bo
 exact zB (k:=2) (i:=(a.fld.moves.gd a.arg.toNat).need) tT mY (zr (F 14 dc) (ifpC ⟨g.1,g.2⟩)) hda1.sl (zr (F 16 dc) (ifpC ⟨g.1,g.2⟩)) ⟨by omega,by omega⟩ (yc g)
 refine fun _ _ _ _ _ _ V=>(xS rfl rfl (V 12 dc) (fun p=>?_) yd)
 exact xa (zr (V 17 dc) (ifpC ⟨p.1,p.2⟩)) (yc p)
 refine ob1 1 fun _ _ aE X=>?_
 obtain⟨e,aF⟩:=aE
 refine xS rfl rfl (X 12 dc) (fun q=>?_) yd
 have Y:((a.fld.moves.gd a.arg.toNat).need).toNat<a.cls.length:=bo
 obtain⟨ae,K,hoke464⟩:=hda1.celD Y
 have af:=aF.cells ae (hda1.foot (ne_of_lt Y))
 exact lD (Iv ((a.cls.gd (((a.fld.moves.gd a.arg.toNat).need).toNat)).n)) lT (zr (X 18 dc) (ifpC ⟨q.1,q.2⟩)) (af.get (j:=0) rfl) (yc q)
 refine fun _ _ _ _ _ _ aG=>(xS rfl rfl (aG 12 dc) (fun B=>?_) yd)
 exact Km rfl (yc B)
 refine ob1 1 fun _ _ aH Z=>?_
 obtain⟨e,aI⟩:=aH
 refine xS rfl rfl (Z 12 dc) (fun s=>?_) yd
 exact lD (Iv ((a.fld.moves.gd a.arg.toNat).least)) lT (zr (Z 20 dc) (ifpC ⟨s.1,s.2⟩)) (zd (aI.b0) rfl) (yc s)
 refine ob1 1 fun _ _ aJ H=>?_
 obtain⟨e,hS496⟩:=aJ
 refine xS rfl rfl (H 12 dc) (fun h=>?_) yd
 exact xv (zr (H 19 dc) (ifpC ⟨h.1,h.2⟩)) (zr (H 21 dc) (ifpC ⟨h.1,h.2⟩)) (yc h)
 refine fun _ _ _ _ _ _ I=>(zN rfl rfl (I 8 dc) (fun t=>?_) yd)
 exact zI (zr (I 12 dc) (ifpC t)) (fun hbp=>(zr (I 22 dc) (ifpC ⟨t,hbp⟩))) (yc t)
 exact fun _ _ _ _ _ _ aa=>obl rfl (zx (aa 8 dc) (fun hbp=>(zr (aa 23 dc) (ifpC hbp))) dR)
 intro vals w529 aK aL
 obtain⟨e,aM⟩:=aK
 have aZ:=aL 25 dc
 refine yg (kv:=[(0,.agg (a.cells da0 da1).toArray),(1,Ix b2 0),(2,.bool ((decide (((a.cls.gd a.no.toNat).n)=((a.fld.moves.gd a.arg.toNat).frm)))&&((decide (((a.fld.moves.gd a.arg.toNat).need)<0))||(decide (((a.fld.moves.gd a.arg.toNat).least)≤((a.cls.gd (((a.fld.moves.gd a.arg.toNat).need).toNat)).n)))))),(4,Ix b2 0),(5,Ix b2 3),(6,da0),(7,Ix b2 6),(8,Iv (a.arg)),(9,Ix (sb da0) (so da0+a.arg.toNat*4)),(10,.agg ((a.fld.moves.gd a.arg.toNat).cells).toArray),(3,Ix D 0)]) ⟨rfl,rfl,(by exact aZ),rfl,rfl,rfl,rfl,rfl,rfl,rfl,rfl,zl⟩ (fun ρw529=>(zb (zq ?_)))
 refine zU Tryz.results136 rfl ?_
 refine⟨?_,(aM.s2_)⟩
 unfold xC
 rw[ifnC (by decide),ifnC (by decide),ifpC rfl]
 rfl
abbrev YN:=And.intro (@Ev.cells.eq_1) (And.intro (@Mv.cells.eq_1) (And.intro (@Fld.cells.eq_1) (And.intro (@Typ.cells.eq_1) (And.intro (@Prj.cells.eq_1) (And.intro (@Dcl.cells.eq_1) (And.intro (@Cel.cells.eq_1) (@AskR.cells.eq_1)))))))
theorem yqd {α:Sort _}{a:α}{X:Prop}(h:a≠a):X:=absurd rfl h
structure Rul where
 may:Nat
 does:Nat
instance:Rep Rul where
 k:=2
 rd _ _ cs x:=cs=[.func (.func x.may) #[] #[],.func (.func x.does) #[] #[]]
 bytes:=16
 bpos:=by decide
 kpos:=by decide
 len h:=by rw[h];rfl
 one h:=by rw[h];exact yo ⟨rfl,rfl,trivial⟩
 mono h _:=h
instance:Flat Rul:=⟨fun h=>h⟩
def ZO:List (Int×Rul):=[(1,⟨128,129⟩),(2,⟨131,132⟩),(3,⟨133,134⟩),(4,⟨131,135⟩),(5,⟨136,137⟩)]
theorem Vr {op:Int}(h:op≠1∧op≠2∧op≠3∧op≠4∧op≠5):yi ZO op=none:=by
 unfold yi
 rw[Option.map_eq_none_iff,List.find?_eq_none]
 intro p hp
 simp only[ZO,List.mem_cons,List.not_mem_nil,or_false]at hp
 rcases hp with rfl|rfl|rfl|rfl|rfl<;>simp<;>omega
theorem Jf (hS0:Sep G W Rs w):Ret Tryz.prog 118 [] w (fun r w'=> ∃(m:Nat),r=(.map (some m):Value)∧Sep G W ((YS (α:=Rul) m ZO)::Rs) w'):=by
 refine zn Tryz.func118 rfl rfl ?_
 refine za (R0 fun _=>st (aS (.map none) (zb (za (R0 fun _=>st (Yq ?_))))))
 intro D x
 obtain⟨a,l⟩: ∃z,z=w.heap.size:=⟨_,rfl⟩;rw[←l]
 have n:Sep G W ((YS (α:=Rul) a [])::Rs) D:=(by rw[l];exact hS0.mapNew x)
 refine st (zV (parts':=[(0,.func (.func 128) #[] #[]),(1,.func (.func 129) #[] #[])]) (v:=.agg #[.func (.func 128) #[] #[],.func (.func 129) #[] #[]]) rfl (by simp+zetaDelta [Instr.build,Instr.fill,go_sem,YN]) (stn (ZZ (α:=Rul) (x1:=(⟨128,129⟩:Rul)) pT mT rfl rfl rfl (by decide) (n.map_ (i:=0) rfl) rfl (fun h=>h) ?_)))
 intro E y p
 have o:Sep G W ((YS (α:=Rul) a (xP ([]:List (Int×Rul)) 1 (⟨128,129⟩:Rul)))::Rs) E:=n.mapPut (i:=0) rfl y p
 refine st (zV (parts':=[(0,.func (.func 131) #[] #[]),(1,.func (.func 132) #[] #[])]) (v:=.agg #[.func (.func 131) #[] #[],.func (.func 132) #[] #[]]) rfl (by simp+zetaDelta [Instr.build,Instr.fill,go_sem,YN]) (stn (ZZ (α:=Rul) (x1:=(⟨131,132⟩:Rul)) pT mT rfl rfl rfl (by decide) (o.map_ (i:=0) rfl) rfl (fun h=>h) ?_)))
 intro H q f
 have b:Sep G W ((YS (α:=Rul) a (xP (xP ([]:List (Int×Rul)) 1 (⟨128,129⟩:Rul)) 2 (⟨131,132⟩:Rul)))::Rs) H:=o.mapPut (i:=0) rfl q f
 refine st (zV (parts':=[(0,.func (.func 133) #[] #[]),(1,.func (.func 134) #[] #[])]) (v:=.agg #[.func (.func 133) #[] #[],.func (.func 134) #[] #[]]) rfl (by simp+zetaDelta [Instr.build,Instr.fill,go_sem,YN]) (stn (ZZ (α:=Rul) (x1:=(⟨133,134⟩:Rul)) pT mT rfl rfl rfl (by decide) (b.map_ (i:=0) rfl) rfl (fun h=>h) ?_)))
 intro A s g
 have c:Sep G W ((YS (α:=Rul) a (xP (xP (xP ([]:List (Int×Rul)) 1 (⟨128,129⟩:Rul)) 2 (⟨131,132⟩:Rul)) 3 (⟨133,134⟩:Rul)))::Rs) A:=b.mapPut (i:=0) rfl s g
 refine st (zV (parts':=[(0,.func (.func 131) #[] #[]),(1,.func (.func 135) #[] #[])]) (v:=.agg #[.func (.func 131) #[] #[],.func (.func 135) #[] #[]]) rfl (by simp+zetaDelta [Instr.build,Instr.fill,go_sem,YN]) (stn (ZZ (α:=Rul) (x1:=(⟨131,135⟩:Rul)) pT mT rfl rfl rfl (by decide) (c.map_ (i:=0) rfl) rfl (fun h=>h) ?_)))
 intro B t j
 have d:Sep G W ((YS (α:=Rul) a (xP (xP (xP (xP ([]:List (Int×Rul)) 1 (⟨128,129⟩:Rul)) 2 (⟨131,132⟩:Rul)) 3 (⟨133,134⟩:Rul)) 4 (⟨131,135⟩:Rul)))::Rs) B:=c.mapPut (i:=0) rfl t j
 refine st (zV (parts':=[(0,.func (.func 136) #[] #[]),(1,.func (.func 137) #[] #[])]) (v:=.agg #[.func (.func 136) #[] #[],.func (.func 137) #[] #[]]) rfl (by simp+zetaDelta [Instr.build,Instr.fill,go_sem,YN]) (stn (ZZ (α:=Rul) (x1:=(⟨136,137⟩:Rul)) pT mT rfl rfl rfl (by decide) (d.map_ (i:=0) rfl) rfl (fun h=>h) ?_)))
 intro C u k
 have e:Sep G W ((YS (α:=Rul) a (xP (xP (xP (xP (xP ([]:List (Int×Rul)) 1 (⟨128,129⟩:Rul)) 2 (⟨131,132⟩:Rul)) 3 (⟨133,134⟩:Rul)) 4 (⟨131,135⟩:Rul)) 5 (⟨136,137⟩:Rul)))::Rs) C:=d.mapPut (i:=0) rfl u k
 refine st (mV (.map (some a)) (st (aS (.map (some a)) (zb (zq (zU Tryz.results118 rfl ?_))))))
 have hz:xP (xP (xP (xP (xP ([]:List (Int×Rul)) 1 (⟨128,129⟩:Rul)) 2 (⟨131,132⟩:Rul)) 3 (⟨133,134⟩:Rul)) 4 (⟨131,135⟩:Rul)) 5 (⟨136,137⟩:Rul)=ZO:=rfl
 rw[hz]at e
 refine⟨a,rfl,e⟩
theorem Ua {op:Int}(h:op=1∨op=2∨op=3∨op=4∨op=5): ∃x,yi ZO op=some x:=by rcases h with rfl|rfl|rfl|rfl|rfl<;>exact⟨_,rfl⟩
theorem Ue {op:Int}{x:Rul}(h:op=1∨op=2∨op=3∨op=4∨op=5)(hx:yi ZO op=some x):(∀args w,(callFunc x.may args).run Tryz.prog w=.ok (.enter x.may args) w)∧(∀args w,(callFunc x.does args).run Tryz.prog w=.ok (.enter x.does args) w):=by
 rcases h with rfl|rfl|rfl|rfl|rfl<;>cases hx
 ·exact⟨Tryz.call128,Tryz.call129⟩
 ·exact⟨mB,Tryz.call132⟩
 ·exact⟨Tryz.call133,Tryz.call134⟩
 ·exact⟨mB,Tryz.call135⟩
 ·exact⟨Tryz.call136,Tryz.call137⟩
theorem zdu {op:Int}{x:Rul}{a:AskR}{da0:Value}(hda0:RdS W G da0 a.fld.moves){da1:Value}(hda1:RdS W G da1 a.cls)(oa:a.Ok)(hS0:Sep G W Rs w)(hx:yi ZO op=some x)(hop:op=1∨op=2∨op=3∨op=4∨op=5)(hak:0≤a.no∧a.no<a.cls.length∧((op=3∨op=4)→Asc (yE a.cls a.no).set)∧(op=5→0≤a.arg∧a.arg<a.fld.moves.length∧((Yg a.fld a.arg).need<0∨(Yg a.fld a.arg).need<a.cls.length))):Ret Tryz.prog x.may [.agg (a.cells da0 da1).toArray] w (fun r w'=>r=(.bool (xC a.fld a.cls (yE a.cls a.no) op a.arg):Value)∧Sep G W Rs w'):=by
 rcases hop with rfl|rfl|rfl|rfl|rfl<;>cases hx
 ·exact zat hda0 hda1 oa hS0 ⟨hak.1,hak.2.1⟩
 ·exact QI hda0 hda1 oa hS0
 ·exact zba hda0 hda1 oa hS0 ⟨hak.1,hak.2.1⟩ (hak.2.2.1 (.inl rfl))
 ·exact QI hda0 hda1 oa hS0
 ·exact Jg hda0 hda1 oa hS0 ⟨hak.1,hak.2.1⟩ ⟨(hak.2.2.2 rfl).1,(hak.2.2.2 rfl).2.1⟩ (hak.2.2.2 rfl).2.2
set_option maxHeartbeats 4000000 in
theorem D_May {t:Typ}{dt0:Value}(hdt0:RdS W G dt0 t.fields)(ot:t.Ok){vc:Value}{c:List Cel}(hc:RdS W G vc c){f:Int}(hf:InR f){op:Int}(hop:InR op){arg:Int}(harg:InR arg)(hS0:Sep G W Rs w)(hak:Wy t c f op arg):Ret Tryz.prog 98 [.agg (t.cells dt0).toArray,vc,.int .i64 (f),.int .i64 (op),.int .i64 (arg)] w (fun r w'=>r=(.int .i64 (xB t c f op arg):Value)∧Sep G W Rs w'):=by
 have hdt0s:_*48≤_:=hdt0.small
 have hcs:_*32≤_:=hc.small
 have hf0:=hak.1;have hf1:=hak.2.1;have hf2:=hak.2.2.1
 refine zn Tryz.func98 rfl rfl ?_
 refine za (R0 fun _=>st (zX rfl ?_))
 intro w3 b2 aM
 refine st (aS (Iv 0) (zb (za (za (R0 fun _=>st (cL Tryz.call118 (Jf (hS0.new aM)) ?_))))))
 rintro _ w6 ⟨Q,rfl,A⟩
 refine st (mV (Iv op) ?_)
 have hops:(op=1∨op=2∨op=3∨op=4∨op=5)∨(op≠1∧op≠2∧op≠3∧op≠4∧op≠5):=by omega
 rcases hops with hop|hop
 obtain⟨rx,hrx⟩:=Ua hop
 refine st (Xh (α:=Rul) (a:=rx) pT mT rfl rfl (A.map_ (i:=0) rfl) hrx ?_)
 rintro _ rfl
 refine st (mV (.tuple #[.agg #[.func (.func rx.may) #[] #[],.func (.func rx.does) #[] #[]],.bool true]) (st (zz rfl rfl (st (zz rfl rfl (st (zG pY ?_)))))))
 intro w10 b9 aN
 have R:=A.new aN
 refine stn (zy (v:=.agg #[.func (.func rx.may) #[] #[],.func (.func rx.does) #[] #[]]) nB rfl rfl (R.b0) (yo ⟨rfl,rfl,zl⟩) yqc rfl ?_)
 intro w12 aF
 refine st (aS (.bool true) (zb (za ?_)))
 refine WD4 ((fun TT s=>WF [fun vals u=>Sep G W (s::TT) u,fun vals u=>(vals 13=(.bool (xC (⟨((t.fields.gd f.toNat)),c,f,arg⟩:AskR).fld (⟨((t.fields.gd f.toNat)),c,f,arg⟩:AskR).cls (yE (⟨((t.fields.gd f.toNat)),c,f,arg⟩:AskR).cls (⟨((t.fields.gd f.toNat)),c,f,arg⟩:AskR).no) op (⟨((t.fields.gd f.toNat)),c,f,arg⟩:AskR).arg):Value))∧Sep G W (s::TT) u]) ((YS Q ZO)::(Blk b2 (t.cells dt0).toArray 83)::Rs) (Blk b9 #[.func (.func rx.may) #[] #[],.func (.func rx.does) #[] #[]] 179)) (AF [Vl 0 (.bool true),Vl 1 (.bool true),Vl 2 (Ix b9 0),Vl 3 (.func (.func rx.may) #[] #[]),Vl 4 (Ix b2 0),Vl 5 dt0,Vl 6 (Iv f),Vl 7 (Ix (sb dt0) (so dt0+f.toNat*4)),Vl 8 (.agg ((t.fields.gd f.toNat).cells (zT W (sb dt0) (so dt0+f.toNat*4+3))).toArray),Vl 9 vc,Vl 10 (Iv f),Vl 11 (Iv arg),Vl 12 (.agg ((⟨((t.fields.gd f.toNat)),c,f,arg⟩:AskR).cells (zT W (sb dt0) (so dt0+f.toNat*4+3)) vc).toArray),fun _=>True,Vl 14 (.bool (!(xC (⟨((t.fields.gd f.toNat)),c,f,arg⟩:AskR).fld (⟨((t.fields.gd f.toNat)),c,f,arg⟩:AskR).cls (yE (⟨((t.fields.gd f.toNat)),c,f,arg⟩:AskR).cls (⟨((t.fields.gd f.toNat)),c,f,arg⟩:AskR).no) op (⟨((t.fields.gd f.toNat)),c,f,arg⟩:AskR).arg))),Vl 15 (.bool (!(xC (⟨((t.fields.gd f.toNat)),c,f,arg⟩:AskR).fld (⟨((t.fields.gd f.toNat)),c,f,arg⟩:AskR).cls (yE (⟨((t.fields.gd f.toNat)),c,f,arg⟩:AskR).cls (⟨((t.fields.gd f.toNat)),c,f,arg⟩:AskR).no) op (⟨((t.fields.gd f.toNat)),c,f,arg⟩:AskR).arg)))]) [[],[0],[0,1],[0,1,2],[0,1],[0,1,4],[0,1],[0,1,4,5,6],[0,1,4,5,6,7],[0,1],[0,1],[0,1],[0,1,4,5,6,7,8,9,10,11],(rg 13),(rg 14),(rg 15)] [13] [(0,0),(0,0),(0,0),(0,0),(0,0),(0,0),(0,0),(0,0),(0,0),(0,0),(0,0),(0,0),(0,0),(0,0),(1,1),(1,1)] (R.pt0 aF) ⟨fun _ _ _ _ _ _ _=>obl rfl (mV (.bool true) dR),fun _ _ _ _ _ _ V=>obl rfl (zP (V 0 dc) dR),?_,?_,?_,?_,?_,?_,?_,?_,?_,?_,?_,?_,?_,fun _ _ _ _ _ _ B=>obl rfl (yC (B 1 dc) (B 14 dc) dR),zl⟩ ?_
 refine fun _ _ _ _ _ _ X=>(zN rfl rfl (X 1 dc) (fun _=>?_) yqd)
 exact zcu rfl dR
 refine ob1 0 fun _ _ (Y:Sep _ _ _ _) C=>(zN rfl rfl (C 1 dc) (fun _=>?_) yqd)
 exact lD (.func (.func rx.may) #[] #[]) Tryz.isAgg176 (C 2 dc) (zd (Y.b0) rfl) dR
 refine fun _ _ _ _ _ _ Z=>(zN rfl rfl (Z 1 dc) (fun _=>?_) yqd)
 exact yU rfl dR
 refine ob1 0 fun _ _ (aa:Sep _ _ _ _) D=>(zN rfl rfl (D 1 dc) (fun _=>?_) yqd)
 exact lD dt0 Tryz.isAgg81 (D 4 dc) (zd (aa.b2) rfl) dR
 refine fun _ _ _ _ _ _ ab=>(zN rfl rfl (ab 1 dc) (fun _=>?_) yqd)
 exact mV (Iv f) dR
 refine ob1 0 fun _ _ _ n=>(zN rfl rfl (n 1 dc) (fun _=>?_) yqd)
 have hi224:f.toNat<t.fields.length:=(by have h1:=hak.1;have h2:=hak.2.1;have h3:=hak.2.2.1;omega)
 exact zB (k:=4) (i:=f) Tryz.underlying81 tR (n 5 dc) hdt0.sl (n 6 dc) ⟨by omega,by omega⟩ dR
 refine ob1 0 fun _ _ (ac:Sep _ _ _ _) E=>(zN rfl rfl (E 1 dc) (fun _=>?_) yqd)
 have F:f.toNat<t.fields.length:=(by have h1:=hak.1;have h2:=hak.2.1;have h3:=hak.2.2.1;omega)
 obtain⟨S,x,hoke234⟩:=hdt0.fldD F
 have hsm236:((t.fields.gd f.toNat).moves).length*32≤140737488355328:=x.small
 have T:=ac.cells S (hdt0.foot (ne_of_lt F))
 exact zh Tryz.isAgg87 tR rfl (E 7 dc) T dR
 refine fun _ _ _ _ _ _ ad=>(zN rfl rfl (ad 1 dc) (fun _=>?_) yqd)
 exact mV vc dR
 refine fun _ _ _ _ _ _ ae=>(zN rfl rfl (ae 1 dc) (fun _=>?_) yqd)
 exact mV (Iv f) dR
 refine fun _ _ _ _ _ _ af=>(zN rfl rfl (af 1 dc) (fun _=>?_) yqd)
 exact mV (Iv arg) dR
 refine fun _ _ _ _ _ _ e=>(zN rfl rfl (e 1 dc) (fun _=>?_) yqd)
 have ag:f.toNat<t.fields.length:=(by have h1:=hak.1;have h2:=hak.2.1;have h3:=hak.2.2.1;omega)
 obtain⟨hce270,y,l⟩:=hdt0.fldD ag
 have hsm272:((t.fields.gd f.toNat).moves).length*32≤140737488355328:=y.small
 have ok273:AskR.Ok (⟨((t.fields.gd f.toNat)),c,f,arg⟩:AskR):=⟨⟨(show InR ((t.fields.gd f.toNat).kind)from l.kind),(show InR ((t.fields.gd f.toNat).policy)from l.policy)⟩,(show InR (f)from om),(show InR (arg)from om)⟩
 exact zV (parts':=[(0,.agg ((t.fields.getD f.toNat default).cells (zT W (sb dt0) (so dt0+f.toNat*4+3))).toArray),(1,vc),(2,Iv f),(3,Iv arg)]) (v:=.agg ((⟨((t.fields.getD f.toNat default)),c,f,arg⟩:AskR).cells (zT W (sb dt0) (so dt0+f.toNat*4+3)) vc).toArray) (Za ⟨rfl,(e 8 (by decide)),rfl,(e 9 (by decide)),rfl,(e 10 (by decide)),rfl,(e 11 (by decide)),zl⟩) (by obtain⟨_,_,ah,_⟩:=hc.sl;rw[show vc=Value.slice _ _ _ from ah];simp[Instr.build,Instr.fill,go_sem,YN]) dR
 refine ob1 0 fun vals _ (H:Sep _ _ _ _) o=>(zN rfl rfl (o 1 dc) (fun _=>?_) yqd)
 have I:f.toNat<t.fields.length:=(by have h1:=hak.1;have h2:=hak.2.1;have h3:=hak.2.2.1;omega)
 obtain⟨U,j,m⟩:=hdt0.fldD I
 have hsm140:((t.fields.gd f.toNat).moves).length*32≤140737488355328:=j.small
 have hcw141:=H.cells U (hdt0.foot (ne_of_lt I))
 have ai:AskR.Ok (⟨((t.fields.gd f.toNat)),c,f,arg⟩:AskR):=⟨⟨(show InR ((t.fields.gd f.toNat).kind)from m.kind),(show InR ((t.fields.gd f.toNat).policy)from m.policy)⟩,(show InR (f)from om),(show InR (arg)from om)⟩
 refine(zW (vals:=[.agg ((⟨((t.fields.gd f.toNat)),c,f,arg⟩:AskR).cells (zT W (sb dt0) (so dt0+f.toNat*4+3)) vc).toArray]) (o 3 dc) (yM ⟨(o 12 dc),zl⟩) (Ue hop hrx).1 (zdu j hc ai H hrx hop (⟨hak.1,hak.2.2.1,hak.2.2.2.1,hak.2.2.2.2⟩)) ?_)
 rintro _ w143 ⟨rfl,aj⟩
 exact fun b d aO=>⟨(zA d aj),zl⟩
 refine ob1 1 fun _ _ ak al=>?_
 obtain⟨J,hS281⟩:=ak
 refine zN rfl rfl (al 1 dc) (fun _=>?_) yqd
 exact yD J dR
 intro vals w291 am an
 obtain⟨J,K⟩:=am
 have aJ:=an 15 dc
 refine yg (kv:=[(0,.agg (t.cells dt0).toArray),(1,vc),(2,Iv f),(3,Iv op),(4,Iv arg),(5,Ix b2 0),(10,Iv 0),(14,.map (some Q)),(15,Iv op),(16,.tuple #[.agg #[.func (.func rx.may) #[] #[],.func (.func rx.does) #[] #[]],.bool true]),(13,.tuple #[.agg #[.func (.func rx.may) #[] #[],.func (.func rx.does) #[] #[]],.bool true]),(17,.agg #[.func (.func rx.may) #[] #[],.func (.func rx.does) #[] #[]]),(18,.bool true),(11,Ix b9 0),(12,.bool true),(34,.bool (!(xC (⟨((t.fields.gd f.toNat)),c,f,arg⟩:AskR).fld (⟨((t.fields.gd f.toNat)),c,f,arg⟩:AskR).cls (yE (⟨((t.fields.gd f.toNat)),c,f,arg⟩:AskR).cls (⟨((t.fields.gd f.toNat)),c,f,arg⟩:AskR).no) op (⟨((t.fields.gd f.toNat)),c,f,arg⟩:AskR).arg)))]) ⟨rfl,rfl,rfl,rfl,rfl,rfl,rfl,rfl,rfl,rfl,rfl,rfl,rfl,rfl,rfl,(by exact aJ),zl⟩ (fun ρw291=>(zb ?_))
 cases h: !(xC (⟨((t.fields.gd f.toNat)),c,f,arg⟩:AskR).fld (⟨((t.fields.gd f.toNat)),c,f,arg⟩:AskR).cls (yE (⟨((t.fields.gd f.toNat)),c,f,arg⟩:AskR).cls (⟨((t.fields.gd f.toNat)),c,f,arg⟩:AskR).no) op (⟨((t.fields.gd f.toNat)),c,f,arg⟩:AskR).arg)
 try simp only[zi]at h
 refine ze rfl (zp (za (R0 fun _=>st (aS (Iv 0) (zb (zq (zU qY (show _=(Iv 0:Value)from rfl) ?_)))))))
 refine⟨?_,(K.s3_)⟩
 have hm:xC (xn t f) c (yE c f) op arg=true:=h
 unfold xB
 rw[hm]
 rfl
 try simp only[zi]at h
 refine zg rfl (za (R0 fun _=>st (aS (Iv 10) (zb (zq (zU qY (show _=(Iv 10:Value)from rfl) ?_))))))
 refine⟨?_,(K.s3_)⟩
 have hm:xC (xn t f) c (yE c f) op arg=false:=h
 unfold xB
 rw[hm]
 rfl
 refine st (Xf (α:=Rul) (zc:=[.nilFunc,.nilFunc]) pT mT pY rfl rfl (A.map_ (i:=0) rfl) (Vr hop) (st (mV (.tuple #[.agg #[.nilFunc,.nilFunc],.bool false]) (st (zz rfl rfl (st (zz rfl rfl (st (zG pY ?_)))))))))
 intro w301 z ao
 have L:=A.new ao
 refine stn (zy (v:=.agg #[.nilFunc,.nilFunc]) nB rfl rfl (L.b0) (yo ⟨rfl,rfl,zl⟩) yqc rfl ?_)
 intro w303 ap
 refine st (aS (.bool false) (zb (za (WD4 ((fun TT s=>WF [fun vals u=>Sep G W (s::TT) u,fun vals u=>Sep G W (s::TT) u]) ((YS (α:=Rul) Q ZO)::(Blk b2 (t.cells dt0).toArray 83)::Rs) (Blk z #[.nilFunc,.nilFunc] 179)) (AF [Vl 0 (.bool false),Vl 1 (.bool false),Vl 2 undef,Vl 3 undef,Vl 4 undef,Vl 5 undef,Vl 6 undef,Vl 7 undef,Vl 8 undef,Vl 9 undef,Vl 10 undef,Vl 11 undef,Vl 12 undef,fun _=>True,Vl 14 undef,Vl 15 (.bool false)]) [[],[0],[0,1],[0,1,2],[0,1],[0,1,4],[0,1],[0,1,4,5,6],[0,1,4,5,6,7],[0,1],[0,1],[0,1],[0,1,4,5,6,7,8,9,10,11],(rg 13),(rg 14),(rg 15)] [13] [(0,0),(0,0),(0,0),(0,0),(0,0),(0,0),(0,0),(0,0),(0,0),(0,0),(0,0),(0,0),(0,0),(0,0),(1,1),(1,1)] (L.pt0 ap) ⟨fun _ _ _ _ _ _ _=>obl rfl (mV (.bool false) dR),fun _ _ _ _ _ _ aq=>obl rfl (zP (aq 0 dc) dR),?_,?_,?_,?_,?_,?_,?_,?_,?_,?_,?_,?_,?_,?_,zl⟩ ?_))))
 exact fun _ _ _ _ _ _ ar=>(zN rfl rfl (ar 1 dc) (fun hb=>absurd hb dc) (fun _ b d _=>⟨zl,d⟩))
 refine ob1 0 fun _ _ _ M=>?_
 exact zN rfl rfl (M 1 dc) (fun hb=>absurd hb dc) (fun _ b d _=>⟨zl,d⟩)
 exact fun _ _ _ _ _ _ au=>(zN rfl rfl (au 1 dc) (fun hb=>absurd hb dc) (fun _ b d _=>⟨zl,d⟩))
 refine ob1 0 fun _ _ _ N=>?_
 exact zN rfl rfl (N 1 dc) (fun hb=>absurd hb dc) (fun _ b d _=>⟨zl,d⟩)
 exact fun _ _ _ _ _ _ av=>(zN rfl rfl (av 1 dc) (fun hb=>absurd hb dc) (fun _ b d _=>⟨zl,d⟩))
 refine ob1 0 fun _ _ _ p=>?_
 exact zN rfl rfl (p 1 dc) (fun hb=>absurd hb dc) (fun _ b d _=>⟨zl,d⟩)
 refine ob1 0 fun _ _ _ O=>?_
 exact zN rfl rfl (O 1 dc) (fun hb=>absurd hb dc) (fun _ b d _=>⟨zl,d⟩)
 exact fun _ _ _ _ _ _ aw=>(zN rfl rfl (aw 1 dc) (fun hb=>absurd hb dc) (fun _ b d _=>⟨zl,d⟩))
 exact fun _ _ _ _ _ _ ax=>(zN rfl rfl (ax 1 dc) (fun hb=>absurd hb dc) (fun _ b d _=>⟨zl,d⟩))
 exact fun _ _ _ _ _ _ ay=>(zN rfl rfl (ay 1 dc) (fun hb=>absurd hb dc) (fun _ b d _=>⟨zl,d⟩))
 refine fun _ _ _ _ _ _ g=>?_
 exact zN rfl rfl (g 1 dc) (fun hb=>absurd hb dc) (fun _ b d _=>⟨zl,d⟩)
 refine ob1 0 fun _ aK (az:Sep _ _ _ _) q=>?_
 refine zN rfl rfl (q 1 dc) (fun hb=>absurd hb dc) (fun _ b d aO=>?_)
 refine⟨?_,zl⟩
 show Sep G W ((Blk z #[.nilFunc,.nilFunc] 179)::(YS (α:=Rul) Q ZO)::(Blk b2 (t.cells dt0).toArray 83)::Rs) aK
 exact az
 exact ob1 1 fun _ _ _ aA=>(zN rfl rfl (aA 1 dc) (fun hb=>absurd hb dc) (fun _ b d _=>⟨zl,d⟩))
 refine fun _ _ _ _ _ _ P=>?_
 exact obl rfl (yt (P 1 dc) rfl dR)
 intro vals w554 aB aC
 have aD:=aB
 have aL:=aC 15 dc
 refine yg (kv:=[(0,.agg (t.cells dt0).toArray),(1,vc),(2,Iv f),(3,Iv op),(4,Iv arg),(5,Ix b2 0),(10,Iv 0),(14,.map (some Q)),(15,Iv op),(16,.tuple #[.agg #[.nilFunc,.nilFunc],.bool false]),(13,.tuple #[.agg #[.nilFunc,.nilFunc],.bool false]),(17,.agg #[.nilFunc,.nilFunc]),(18,.bool false),(11,Ix z 0),(12,.bool false),(34,.bool false)]) ⟨rfl,rfl,rfl,rfl,rfl,rfl,rfl,rfl,rfl,rfl,rfl,rfl,rfl,rfl,rfl,(by exact aL),zl⟩ (fun ρw554=>(zb (ze rfl (zp (za (R0 fun _=>st (aS (Iv 0) (zb (zq (zU qY rfl ?_))))))))))
 refine⟨?_,(aD.s3_)⟩
 have hm:xC (xn t f) c (yE c f) op arg=true:=by unfold xC;rw[ifnC hop.1,ifnC hop.2.2.1,ifnC hop.2.2.2.2]
 unfold xB
 rw[hm]
 rfl
end
section
open Go.Proofs Go.Shelf
def zbb:Go.Shelf.Ren:=⟨fun|21=>143|27=>148|28=>149|35=>151|39=>152|23=>144|n=>n,fun|0=>0|3=>3|4=>4|22=>53|n=>n,fun|n=>n⟩
theorem zcZ:Go.Proofs.Lays2.n21 Tryz.prog zbb:={
 mixed:=by kernel_rfl,
 f21:=Tryz.func143.trans (congrArg some (by kernel_rfl)),
 f27:=Tryz.func148.trans (congrArg some (by kernel_rfl)),
 f28:=Tryz.func149.trans (congrArg some (by kernel_rfl)),
 f35:=Tryz.func151.trans (congrArg some (by kernel_rfl)),
 f39:=Tryz.func152.trans (congrArg some (by kernel_rfl)),
 t0:=pB,
 a0:=qB,
 z0:=rB,
 v0:=sB,
 t3:=mT,
 a3:=lT,
 z3:=kT,
 v3:=lY,
 t4:=kY,
 a4:=rR,
 z4:=qT,
 v4:=tB,
 t22:=nT,
 a22:=sR,
 z22:=wT,
 v22:=uB,
 i3:=by kernel_rfl
}
theorem zcQ:Go.Proofs.Lays2.n23 Tryz.prog zbb:={
 mixed:=by kernel_rfl,
 f23:=Tryz.func144.trans (congrArg some (by kernel_rfl)),
 t0:=pB,
 a0:=qB,
 z0:=rB,
 v0:=sB,
 t3:=mT,
 a3:=lT,
 z3:=kT,
 v3:=lY,
 t4:=kY,
 a4:=rR,
 z4:=qT,
 v4:=tB,
 t22:=nT,
 a22:=sR,
 z22:=wT,
 v22:=uB,
 i3:=by kernel_rfl
}
end
section
open Go.RowKit Go.Sort
structure Wr (w w':World) (b:Nat) (c':List Value) (T:TypeId):Prop where
 at_: ∃a:Array Value,a.toList=c'∧w'.heap[b]? =some (.cells a T)
 other: ∀i,i≠b→w'.heap[i]? =w.heap[i]?
 size:w'.heap.size=w.heap.size
 os:w'.os=w.os
 tape:w'.tape=w.tape
 output:w'.output=w.output
 drawn:w.drawn≤w'.drawn
theorem Wr.trans {w1 w2 w3:World}{b:Nat}{c c':List Value}{T:TypeId}(h:Wr w1 w2 b c T)(k:Wr w2 w3 b c' T):Wr w1 w3 b c' T:=
 ⟨k.at_,fun i hi=>(k.other i hi).trans (h.other i hi),k.size.trans h.size,k.os.trans h.os,k.tape.trans h.tape,k.output.trans h.output,Nat.le_trans h.drawn k.drawn⟩
theorem Wr.drew {w:World}{b:Nat}{a:Array Value}{T:TypeId}(h:w.heap[b]? =some (.cells a T)):Wr w w.drew b a.toList T:=⟨⟨a,rfl,h⟩,fun _ _=>rfl,rfl,rfl,rfl,rfl,Nat.le_succ _⟩
theorem Wr.ahead {w:World}{b q:Nat}{a:Array Value}{T:TypeId}(h:w.heap[b]? =some (.cells a T)):Wr w (Sort.ahead w q) b a.toList T:=⟨⟨a,rfl,h⟩,fun _ _=>rfl,rfl,rfl,rfl,rfl,Nat.le_add_right _ _⟩
theorem Wr.chg {w w':World}{b:Nat}{c:List Value}{T:TypeId}(h:Wr w w' b c T){c0:Array Value}(h0:w.heap[b]? =some (.cells c0 T)):Chg (fun i=>i=b) w w':=
 ⟨h.os,h.tape,h.output,Nat.le_of_eq h.size.symm,fun i _ hne=>h.other i hne,fun i ⟨a,t,hi⟩=>by
  by_cases e:i=b
  ·subst e;obtain⟨z,_,hz⟩:=h.at_;exact⟨z,T,hz⟩
  ·exact⟨a,t,by rw[h.other i e];exact hi⟩,h.drawn⟩
theorem QX {w:World}{b o:Nat}{a:Array Value}{T:TypeId}(h:w.heap[b]? =some (.cells a T))(v:Value):Wr w (w.setCell ⟨b,o,none⟩ v) b (a.toList.set o v) T:=by
 refine⟨⟨a.setIfInBounds o v,by simp,?_⟩,fun i hi=>?_,by simp[World.setCell],rfl,rfl,rfl,Nat.le_refl _⟩
 ·simp[World.setCell,Array.getElem?_modify,h]
 ·simp only[World.setCell,Array.getElem?_modify];rw[if_neg (fun e=>hi e.symm)]
def zbp (c:List Value)(o:Nat):List Value→List Value
 |[]=>c
 |v::vs=>zbp (c.set o v) (o+1) vs
theorem xN {b:Nat}{T:TypeId}: ∀(vs:List Value) (o:Nat) (w:World) (a:Array Value),w.heap[b]? =some (.cells a T)→Wr w (w.setCells b o vs) b (zbp a.toList o vs) T
 |[],_,w,a,h=>⟨⟨a,rfl,h⟩,fun _ _=>rfl,rfl,rfl,rfl,rfl,Nat.le_refl _⟩
 |v::vs,o,w,a,h=>by
  have h1:=QX (o:=o) h v
  obtain⟨a1,e1,h2⟩:=h1.at_
  have h3:=xN vs (o+1) _ a1 h2
  rw[e1]at h3
  exact h1.trans h3
theorem Yo: ∀(vs:List Value) (o:Nat) (c:List Value),o+vs.length≤c.length→zbp c o vs=c.take o++vs++c.drop (o+vs.length)
 |[],o,c,_=>by simp[zbp]
 |v::vs,o,c,h=>by
  simp only[List.length_cons]at h
  rw[zbp,Yo vs (o+1) (c.set o v) (by simp;omega)]
  have e1:(c.set o v).take (o+1)=c.take o++[v]:=by
   rw[List.take_set,List.take_succ_eq_append_getElem (by omega),List.set_append_right _ _ (by simp;omega),List.length_take,Nat.min_eq_left (by omega),Nat.sub_self];rfl
  have e2:(c.set o v).drop (o+1+vs.length)=c.drop (o+1+vs.length):=by rw[List.drop_set_of_lt (by omega)]
  rw[e1,e2,List.length_cons,show o+1+vs.length=o+(vs.length+1) by omega]
  simp only[List.append_assoc,List.cons_append,List.nil_append]
section
variable {G:Nat→Prop}{W w:World}{Rs:List HP}{Ti:TypeId}{v:Value}{l:List Int}
def yS (l:List Int):List Value:=l.map fun x=>Value.int .i64 x
theorem VU {q:List Value→Int→Prop}(hq: ∀cs x,q cs x→cs=[.int .i64 x]): ∀{css:List (List Value)} {l:List Int},EP q css l→css.flatten=yS l
 |[],[],_=>rfl
 |_::_,_::_,h=>by rw[List.flatten_cons,hq _ _ h.1,VU hq h.2];rfl
 |[],_::_,h=>h.elim
 |_::_,[],h=>h.elim
theorem KB {q:List Value→Int→Prop}: ∀{l:List Int},(∀x∈l,q [.int .i64 x] x)→EP q (l.map fun x=>[Value.int .i64 x]) l
 |[],_=>trivial
 |x::l,h=>⟨h x (by simp),KB (fun y hy=>h y (by simp[hy]))⟩
theorem XJ (l:List Int):(l.map fun x=>[Value.int .i64 x]).flatten=yS l:=by
 induction l with
 |nil=>rfl
 |cons x l ih=>simp[yS]at*;exact ih
theorem Sep.intRow (h:Sep G W (RowE (α:=Int) own Ti v l::Rs) w):(∀x∈l,InR x)∧l.length*8≤140737488355328∧((v=.slice none 0 0∧l=[])∨ ∃g cap cur,v=.slice (some ⟨g,0,none⟩) l.length cap∧w.heap[g]? =some (.cells cur Ti)∧l.length≤cap∧cap≤maxLen∧cur.size=cap∧cur.toList.take l.length=yS l∧
 ∀w' v' (l':List Int) cur',Wr w w' g cur' Ti→v'=.slice (some ⟨g,0,none⟩) l'.length cap→l'.length≤cap→cur'.length=cap→cur'.take l'.length=yS l'→(∀x∈l',InR x)→l'.length*8≤140737488355328→Sep G W (RowE (α:=Int) own Ti v' l'::Rs) w'):=by
 obtain⟨f,hA,hl,hT⟩:=h.take (i:=0) rfl
 obtain⟨css,hE,hown,hrow,hsm⟩:=hA
 have hin: ∀x∈l,InR x:=by
  intro x hx
  obtain⟨i,hi,rfl⟩:=List.getElem_of_mem hx
  exact(EP.at2 hE i (by rw[hE.length];exact hi) hi).2
 refine⟨hin,hsm,?_⟩
 have hcf:css.flatten=yS l:=VU (fun cs x h=>h.1) hE
 rcases hown.2 with⟨rfl,h0⟩|⟨g,cap,cur,rfl,hg,hb,hn,hm,hs,ht⟩
 ·exact .inl ⟨rfl,List.length_eq_zero_iff.1 h0⟩
 ·have hk:Rep.k Int=1:=rfl
  rw[hk,Nat.mul_one]at hs ht
  refine .inr ⟨g,cap,cur,rfl,hb,hn,hm,hs,by rw[ht,hcf],fun w' v' l' cur' hw hv' hl' hc' ht' hin' hsm'=>?_⟩
  obtain⟨a,ha,hat⟩:=hw.at_
  refine hT w' _ f ((hw.chg hb).weak (fun i _ hi=>by subst hi;exact hrow _ rfl)) ⟨l'.map fun x=>[Value.int .i64 x],KB (fun x hx=>⟨rfl,hin' x hx⟩),⟨by rw[XJ];simp[yS,hk],.inr ⟨g,cap,a,hv',hg,hat,hl',hm,?_,?_⟩⟩,fun b hb'=>?_,hsm'⟩ (fun _ h=>.inl h)
  ·rw[hk,Nat.mul_one,←hc',←ha];simp
  ·rw[hk,Nat.mul_one,XJ,←ht',←ha]
  ·subst hv';exact hrow b hb'
theorem Sep.intNew (h:Sep G W Rs w){w':World}{cap:Nat}{cur':List Value}{l':List Int}{c0:Array Value}{w1:World}(hn:New w w1 w.heap.size (.cells c0 Ti))(hw:Wr w1 w' w.heap.size cur' Ti)(hl':l'.length≤cap)(hc':cur'.length=cap)(hm:cap≤maxLen)(ht':cur'.take l'.length=yS l')(hin': ∀x∈l',InR x)(hsm':l'.length*8≤140737488355328):
 Sep G W (RowE (α:=Int) own Ti (.slice (some ⟨w.heap.size,0,none⟩) l'.length cap) l'::Rs) w':=by
 obtain⟨a,ha,hat⟩:=hw.at_
 have hk:Rep.k Int=1:=rfl
 have hx:Ext w w':=hn.ext.new (hw.chg hn.at_) (fun i hi e=>by omega)
 refine h.push hx (f:=fun b=>b=w.heap.size) ⟨l'.map fun x=>[Value.int .i64 x],KB (fun x hx=>⟨rfl,hin' x hx⟩),⟨by rw[XJ];simp[yS,hk],.inr ⟨w.heap.size,cap,a,rfl,Nat.zero_le _,hat,hl',hm,?_,?_⟩⟩,fun b hb'=>?_,hsm'⟩ (fun b h=>by omega)
 ·rw[hk,Nat.mul_one,←hc',←ha];simp
 ·rw[hk,Nat.mul_one,XJ,←ht',←ha]
 ·simp only[Value.ownBlock,Option.some.injEq]at hb';exact hb'.symm
theorem Sep.intNew' (h:Sep G W Rs w){w':World}{cap:Nat}{l':List Int}{c0:Array Value}(hn:New w w' w.heap.size (.cells c0 Ti))(hl':l'.length≤cap)(hc':c0.toList.length=cap)(hm:cap≤maxLen)(ht':c0.toList.take l'.length=yS l')(hin': ∀x∈l',InR x)(hsm':l'.length*8≤140737488355328):
 Sep G W (RowE (α:=Int) own Ti (.slice (some ⟨w.heap.size,0,none⟩) l'.length cap) l'::Rs) w':=
 h.intNew hn ⟨⟨c0,rfl,hn.at_⟩,fun _ _=>rfl,rfl,rfl,rfl,rfl,Nat.le_refl _⟩ hl' hc' hm ht' hin' hsm'
theorem KS {w:World}{b o:Nat}{a:Array Value}{T:TypeId}{u:Value}(h:w.heap[b]? =some (.cells a T))(hu:a.toList[o]? =some u):w.cell? ⟨b,o,none⟩=some u:=Zk h (by simpa using hu)
theorem QN (l:List Int): ∀u∈yS l,u.oneCell'=true:=by
 intro u hu;simp only[yS,List.mem_map]at hu;obtain⟨x,_,rfl⟩:=hu;rfl
theorem zak (a b:List Int):yS (a++b)=yS a++yS b:=by simp[yS]
theorem yL (a:List Int):(yS a).length=a.length:=by simp[yS]
theorem zaM (n:Nat):(Builtin.zeroCells (Value.int .i64 0).cells n).toList.length=n:=by simp[Builtin.zeroCells,Value.cells]
theorem QY (w:World)(o:Obj):New w (w.alloc o) w.heap.size o:=New.mk' w o
theorem JI (w:World)(o:Obj):New w (w.drew.alloc o) w.heap.size o:=
 have h:New w.drew (w.drew.alloc o) w.heap.size o:=New.mk' w.drew o
 ⟨Chg.trans (XI (w0:=w.drew) rfl rfl rfl ⟨rfl,Nat.le_succ _⟩) h.ext,h.eq,h.size,h.at_⟩
set_option maxHeartbeats 1000000 in
theorem zcv {P:Program}{ρ:Go.Shelf.Ren}(L:Go.Proofs.Lays2.n21 P ρ){i b:Nat}{x:Int}(hTi:ρ.t 3=Ti)(hS0:Sep G W (RowE (α:=Int) own Ti v l::Blk b #[.int .i64 x] Ti::Rs) w)(hi:i≤l.length)(hx:InR x)(hbig:(l.length+1)*8≤140737488355328):
 Ret P (ρ.f 21) [v,.int .i64 ((i:Nat):Int),.slice (some ⟨b,0,none⟩) 1 1] w (fun r w'=>Sep G W (RowE (α:=Int) own Ti r (l.take i++x::l.drop i)::Rs) w'):=by
 have hb:=hS0.blk (i:=1) rfl
 have hvs: ∀j u,[Value.int .i64 x][j]? =some u→w.cell? ⟨b,0+j,none⟩=some u:=fun j u hu=>by rw[Nat.zero_add];exact KS hb hu
 have h1v: ∀u∈[Value.int .i64 x],u.oneCell'=true:=by intro u hu;simp at hu;subst hu;rfl
 have hS:Sep G W (RowE (α:=Int) own Ti v l::Rs) w:=hS0.sel 2 [0] (Nat.le_add_left _ _) rfl rfl
 have hR:Sep G W Rs w:=hS.sel 1 [] (Nat.le_add_left _ _) rfl rfl
 obtain⟨hin,hsm,hc⟩:=hS.intRow
 have hin': ∀y∈l.take i++x::l.drop i,InR y:=by
  intro y hy
  rcases List.mem_append.1 hy with h|h
  ·exact hin y (List.mem_of_mem_take h)
  ·rcases List.mem_cons.1 h with rfl|h
   ·exact hx
   ·exact hin y (List.mem_of_mem_drop h)
 have hlen:(l.take i++x::l.drop i).length=l.length+1:=by simp;omega
 have hsm':(l.take i++x::l.drop i).length*8≤140737488355328:=by rw[hlen];exact hbig
 have hml:l.length+1≤maxLen:=by unfold maxLen;omega
 have henc:yS (l.take i++x::l.drop i)=yS (l.take i)++[.int .i64 x]++yS (l.drop i):=by simp[yS]
 have hend:i=l.length→yS (l.take i++x::l.drop i)=yS l++[.int .i64 x]:=fun e=>by subst e;rw[henc,List.take_length,List.drop_length];simp[yS]
 have grow: ∀(base:Option Addr) (c:Nat),v=.slice base l.length c→i=l.length→c<l.length+1→l.length≤c→(base=none→l.length=0)→(∀a,base=some a→ ∀j u,(yS l)[j]? =some u→w.cell? (a.add j)=some u)→
  Ret P (ρ.f 21) [v,.int .i64 ((i:Nat):Int),.slice (some ⟨b,0,none⟩) 1 1] w (fun r w'=>Sep G W (RowE (α:=Int) own Ti r (l.take i++x::l.drop i)::Rs) w'):=by
  intro base c hv hil hcl hlc hnil hcs
  have h:=Any2.slices_Insert_int_end_grow L base l.length c b 0 1 1 (yS l) [.int .i64 x] w (by omega) hlc hcl hbig (yL l) rfl hnil hcs hvs h1v
  subst hv
  refine Calls.mono (by subst hil;exact h) ?_
  rintro e w' ⟨rfl,rfl⟩
  refine⟨_,rfl,?_⟩
  rw[hTi]
  have hg:=grownCap_ge w (l.length+1) c Ti
  have hgm:=grownCap_le_maxLen w (l.length+1) c Ti hml
  have hn:=JI w (.cells ((yS l++[Value.int .i64 x]).toArray++Builtin.zeroCells (Value.int .i64 0).cells (grownCap w (l.length+1) c Ti-(l.length+1))) Ti)
  have:=hR.intNew' hn (cap:=grownCap w (l.length+1) c Ti) (l':=l.take i++x::l.drop i) (by rw[hlen];exact hg) ?_ hgm ?_ hin' hsm'
  ·rw[hlen]at this;exact this
  ·simp only[Array.toList_append,List.length_append,yL,zaM,List.length_cons,List.length_nil];omega
  ·rw[hlen,hend hil]
   simp only[Array.toList_append]
   rw[List.take_append_of_le_length (by simp[yL])]
   exact List.take_of_length_le (by simp[yL])
 rcases hc with⟨rfl,rfl⟩|⟨g,cap,cur,rfl,hg,hlc,hcm,hcs,ht,back⟩
 ·exact grow none 0 rfl (by simpa using hi) (by simp) (by simp) (fun _=>rfl) (fun a h=>by cases h)
 ·have hne:b≠g:=by
   obtain⟨f1,f2,hA,hB,hd,_,_⟩:=hS0.apart2 (i:=0) (j:=1) rfl rfl (by decide)
   obtain⟨_,_,_,hrow,_⟩:=hA
   exact fun e=>hd g (hrow g rfl) (e▸hB.2)
  have hcells: ∀j u,(yS l)[j]? =some u→w.cell? ⟨g,0+j,none⟩=some u:=fun j u hu=>by
   rw[Nat.zero_add]
   refine KS hg ?_
   rw[←ht,List.getElem?_take]at hu
   split at hu
   ·exact hu
   ·cases hu
  have hlc':cur.toList.length=cap:=by simpa using hcs
  have hcell: ∀j,j<cap→(w.cell? ⟨g,0+j,none⟩).isSome=true:=fun j hj=>by
   rw[Nat.zero_add,KS hg (List.getElem?_eq_getElem (by omega))];rfl
  have hfz: ∀j,w.frozen? ⟨g,j,none⟩=false:=fun j=>by simp[World.frozen?,hg]
  by_cases hil:i=l.length
  ·by_cases hroom:l.length+1≤cap
   ·have h:=Any2.slices_Insert_int_end_room L g 0 l.length cap b 0 1 1 [.int .i64 x] w (by omega) hroom (by unfold maxLen at hcm;omega) rfl (fun j hj=>by rw[Nat.add_assoc];exact hcell _ (by omega)) (fun j _=>hfz _) hvs h1v
    refine Calls.mono (by subst hil;exact h) ?_
    rintro e w' ⟨rfl,rfl⟩
    refine⟨_,rfl,?_⟩
    have hw:=xN [.int .i64 x] (0+l.length) w cur hg
    rw[Nat.zero_add,Yo _ _ _ (by simp only[List.length_cons,List.length_nil];omega)]at hw
    rw[Nat.zero_add]
    refine back _ _ _ _ hw (by rw[hlen]) (by rw[hlen];exact hroom) (by simp;omega) ?_ hin' hsm'
    rw[hlen,hend hil,ht,List.take_append_of_le_length (by simp[yL])]
    exact List.take_of_length_le (by simp[yL])
   ·exact grow (some ⟨g,0,none⟩) cap rfl hil (by omega) hlc (fun h=>by cases h) (fun a ha j u hu=>by cases ha;rw[VC];exact hcells j u hu)
  ·have hlt:i<l.length:=by omega
   have ed:(yS l).drop i=yS (l.drop i):=by simp[yS,List.map_drop]
   have et:(yS l).take i=yS (l.take i):=by simp[yS,List.map_take]
   by_cases hroom:l.length+1≤cap
   ·have h:=Any2.slices_Insert_int_shift L g 0 l.length cap i b 0 1 1 (yS l) [.int .i64 x] w hlt (by omega) hroom (by unfold maxLen at hcm;omega) hne (yL l) rfl hcells (fun j hj=>hcell j (by omega)) (fun j _=>by rw[Nat.zero_add];exact hfz _) hvs (QN l) h1v
     Ti Ti 1 cap (by simp[World.shape?,hb]) (by simp[World.shape?,hg,hcs]) (by omega) (by simp[World.frozen?,hb]) (by simp[World.frozen?,hb])
    refine Calls.mono h ?_
    rintro e w' ⟨rfl,rfl⟩
    refine⟨_,rfl,?_⟩
    have h1:=Wr.drew hg
    obtain⟨a1,e1,hg1⟩:=h1.at_
    have h2:=xN ((yS l).drop i) (0+(i+1)) w.drew a1 hg1
    rw[e1,Nat.zero_add,Yo _ _ _ (by simp only[List.length_drop,yL];omega)]at h2
    obtain⟨a2,e2,hg2⟩:=h2.at_
    have h3:=xN [.int .i64 x] (0+i) _ a2 hg2
    rw[e2,Nat.zero_add,Yo _ _ _ (by simp only[List.length_append,List.length_take,List.length_drop,yL,List.length_cons,List.length_nil];omega)]at h3
    rw[Nat.zero_add,Nat.zero_add]
    refine back _ _ _ _ ((h1.trans h2).trans h3) (by rw[hlen]) (by rw[hlen];exact hroom) (by simp[yL];omega) ?_ hin' hsm'
    rw[hlen,henc,ed]
    have k1:(cur.toList.take (i+1)++yS (l.drop i)++cur.toList.drop (i+1+(yS (l.drop i)).length)).take i=yS (l.take i):=by
     rw[List.append_assoc,List.take_append_of_le_length (by simp;omega),List.take_take,Nat.min_eq_left (by omega),←et,←ht,List.take_take,Nat.min_eq_left (by omega)]
    have k2:(cur.toList.take (i+1)++yS (l.drop i)++cur.toList.drop (i+1+(yS (l.drop i)).length)).drop (i+[Value.int .i64 x].length)=yS (l.drop i)++cur.toList.drop (i+1+(yS (l.drop i)).length):=by
     have hh:(cur.toList.take (i+1)).length=i+1:=by rw[List.length_take];omega
     show(cur.toList.take (i+1)++yS (l.drop i)++cur.toList.drop (i+1+(yS (l.drop i)).length)).drop (i+1)=_
     rw[List.append_assoc];exact List.drop_left' hh
    rw[k1,k2,←List.append_assoc,List.take_append_of_le_length (by simp[yL];omega)]
    exact List.take_of_length_le (by simp[yL];omega)
   ·have h:=Any2.slices_Insert_int_grow L g 0 l.length cap i b 0 1 1 (yS l) [.int .i64 x] w hlt (by omega) hlc (by omega) hbig (yL l) rfl hcells hvs (QN l) h1v
    refine Calls.mono h ?_
    rintro e w' ⟨rfl,rfl⟩
    refine⟨_,rfl,?_⟩
    rw[hTi]
    have hg':=grownCap_ge w (l.length+1) cap Ti
    have hgm:=grownCap_le_maxLen w (l.length+1) cap Ti hml
    obtain⟨gc,hgc⟩: ∃gc,gc=grownCap w (l.length+1) cap Ti:=⟨_,rfl⟩
    rw[←hgc]at hg' hgm⊢
    have hn:=QY w (.cells (((yS l).take i).toArray++Builtin.zeroCells (Value.int .i64 0).cells (l.length+1-i)++Builtin.zeroCells (Value.int .i64 0).cells (gc-(l.length+1))) Ti)
    have hlen0:(((yS l).take i).toArray++Builtin.zeroCells (Value.int .i64 0).cells (l.length+1-i)++Builtin.zeroCells (Value.int .i64 0).cells (gc-(l.length+1))).toList.length=gc:=by
     simp only[Array.toList_append,List.length_append,zaM,List.length_take,yL];omega
    have htk0:(((yS l).take i).toArray++Builtin.zeroCells (Value.int .i64 0).cells (l.length+1-i)++Builtin.zeroCells (Value.int .i64 0).cells (gc-(l.length+1))).toList.take i=yS (l.take i):=by
     simp only[Array.toList_append]
     rw[List.append_assoc,List.take_append_of_le_length (by simp[yL];omega),et]
     exact List.take_of_length_le (by simp[yL];omega)
    obtain⟨A0,hA0⟩: ∃A0,A0=((yS l).take i).toArray++Builtin.zeroCells (Value.int .i64 0).cells (l.length+1-i)++Builtin.zeroCells (Value.int .i64 0).cells (gc-(l.length+1)):=⟨_,rfl⟩
    rw[←hA0]at hn hlen0 htk0⊢
    have h1:=Wr.drew hn.at_
    obtain⟨a1,e1,hg1⟩:=h1.at_
    have h2:=xN [.int .i64 x] i _ a1 hg1
    rw[e1,Yo _ _ _ (by simp only[List.length_cons,List.length_nil];omega)]at h2
    obtain⟨a2,e2,hg2⟩:=h2.at_
    have h3:=Wr.drew hg2
    obtain⟨a3,e3,hg3⟩:=h3.at_
    have h4:=xN ((yS l).drop i) (i+1) _ a3 hg3
    have hl2:(A0.toList.take i++[Value.int .i64 x]++A0.toList.drop (i+[Value.int .i64 x].length)).length=gc:=by
     simp only[List.length_append,List.length_take,List.length_drop,List.length_cons,List.length_nil];omega
    rw[e3,e2,Yo _ _ _ (by rw[hl2];simp only[List.length_drop,yL];omega)]at h4
    have hpre:(A0.toList.take i++[Value.int .i64 x]++A0.toList.drop (i+[Value.int .i64 x].length)).take (i+1)=A0.toList.take i++[Value.int .i64 x]:=by
     have hh:(A0.toList.take i++[Value.int .i64 x]).length=i+1:=by rw[List.length_append,List.length_take,List.length_cons,List.length_nil];omega
     exact List.take_left' hh
    have:=hR.intNew hn (((h1.trans h2).trans h3).trans h4) (cap:=gc) (l':=l.take i++x::l.drop i) (by rw[hlen];exact hg') ?_ hgm ?_ hin' hsm'
    ·rw[hlen]at this;exact this
    ·simp only[List.length_append,List.length_take,List.length_drop,hl2,yL];omega
    ·rw[hlen,henc,hpre,htk0,ed,List.take_append_of_le_length (by simp[yL];omega)]
     exact List.take_of_length_le (by simp[yL];omega)
theorem VG (d:List Int)(c:Array Value)(h:d.length≤c.size):(putCells (Value.int .i64) 0 d.toArray c).toList=yS d++c.toList.drop d.length:=by
 refine List.ext_getElem (by simp[putCells,yS];omega) (fun j h1 h2=>?_)
 have hj:j<c.size:=by simpa[putCells]using h1
 by_cases hd:j<d.length
 ·rw[List.getElem_append_left (by simpa[yS]using hd)]
  simp[putCells,yS,hd]
 ·rw[List.getElem_append_right (by simp[yS];omega)]
  simp[putCells,yS,hd,show d.length+(j-d.length)=j by omega]
theorem Jx {b:Nat}{a:Array Value}{T:TypeId}(h:w.heap[b]? =some (.cells a T))(d:List Int)(hd:d.length≤a.size):Wr w (putRow (Value.int .i64) w b 0 d.toArray) b (yS d++a.toList.drop d.length) T:=by
 refine⟨⟨putCells (Value.int .i64) 0 d.toArray a,VG d a hd,?_⟩,fun i hi=>?_,by simp,rfl,rfl,rfl,Nat.le_refl _⟩
 ·simp[putRow,mapBlock,Array.getElem?_modify,h,onCells]
 ·simp only[putRow,mapBlock,Array.getElem?_modify];rw[if_neg (fun e=>hi e.symm)]
theorem zbM {P:Program}{ρ:Go.Shelf.Ren}(L:Go.Proofs.Lays2.n23 P ρ){i:Nat}(hS:Sep G W (RowE (α:=Int) own Ti v l::Rs) w)(hi:i<l.length):
 Ret P (ρ.f 23) [v,.int .i64 ((i:Nat):Int),.int .i64 ((i+1:Nat):Int)] w (fun r w'=>Sep G W (RowE (α:=Int) own Ti r (l.take i++l.drop (i+1))::Rs) w'):=by
 obtain⟨hin,hsm,hc⟩:=hS.intRow
 rcases hc with⟨rfl,rfl⟩|⟨g,cap,cur,rfl,hg,hlc,hcm,hcs,ht,back⟩
 ·exact absurd hi (Nat.not_lt_zero i)
 ·have hH:Holds (Value.int .i64) w g 0 l.toArray:=by
   intro j hj
   have hj':j<l.length:=by simpa using hj
   refine⟨?_,by simp[World.frozen?,hg]⟩
   rw[Nat.zero_add]
   refine KS hg ?_
   have:(yS l)[j]? =some (.int .i64 l[j]):=by simp[yS,hj']
   rw[←ht,List.getElem?_take,if_pos hj']at this
   rw[this]
   simp[hj']
  have h:=Any.slices_Delete_int L g 0 cap i (i+1) l w hH hlc (by unfold maxLen at hcm;omega) (by omega) hi
  refine Calls.mono h ?_
  rintro e w' ⟨rfl,q,rfl⟩
  refine⟨_,rfl,?_⟩
  have h1:=Wr.ahead (q:=q) hg
  obtain⟨a1,e1,hg1⟩:=h1.at_
  have ha1:a1.size=cap:=by have:=congrArg List.length e1;simpa[hcs]using this
  have hdl:(l.take i++l.drop (i+1)++List.replicate (i+1-i) 0).length=l.length:=by simp;omega
  have h2:=Jx hg1 (l.take i++l.drop (i+1)++List.replicate (i+1-i) 0) (by rw[hdl];omega)
  have hlen:(l.take i++l.drop (i+1)).length=l.length-(i+1-i):=by simp;omega
  refine back _ _ _ _ (h1.trans h2) (by rw[hlen]) (by rw[hlen];omega) ?_ ?_ (fun x hx=>?_) (by rw[hlen];omega)
  ·have ha2:a1.toList.length=cap:=by simpa using ha1
   rw[List.length_append,yL,hdl,List.length_drop,ha2];omega
  ·rw[hlen,zak,List.append_assoc,List.take_append_of_le_length (by rw[yL,hlen];exact Nat.le_refl _)]
   exact List.take_of_length_le (by rw[yL,hlen];exact Nat.le_refl _)
  ·rcases List.mem_append.1 hx with h|h
   ·exact hin x (List.mem_of_mem_take h)
   ·exact hin x (List.mem_of_mem_drop h)
end
end
end Go.Proofs.YtpdolkiohjdodaaGreatDoor
