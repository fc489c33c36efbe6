/- Parts. -/
import Derived.Test.YtobejfcgcfdpfaaGreatDoorPc46
import Derived.Test.YtobejfcgcfdpfaaGreatDoorRows
import Derived.LaidLaws
import Derived.LaidHandle
import Derived.LaidSub
import Derived.Stop.Joined
import Derived.Lay
set_option linter.unusedSimpArgs false
set_option linter.unusedVariables false
open Go.Proofs.Tryz
namespace Go.Proofs.YtobejfcgcfdpfaaGreatDoor
open Go.Av Go.ChangeShapes Go.WideShapes Go.ChangeAt Go.RowKit
theorem adP:prog.globalNamed "errors.errorType" = some 3:=by kernel_rfl
theorem adV:(prog.cutTypes.find? (·.1 == "internal/reflectlite.rtype")).map (·.2)=some 302:=by kernel_rfl
theorem adT:((List.range (465 - 100)).filter fun t=>prog.rowNamed t [101,114,114,111,114])=[33]:=ah
theorem adY:prog.types.size=465 - 100:=ah
theorem NO:prog.globalNamed "signalcabin/signalcabinref.Fine" = some 0:=by kernel_rfl
theorem adQ:(prog.globals[0]?).map (·.type)=some 68:=ah
theorem ZG:prog.cellsOf 40=1:=ah
def Iw:List (String×DataW Unit):=[("errors.errorType",Rows.laid_errors_errorType)]
def Ix:List (String×DataW Unit):=[("signalcabin/signalcabinref.Fine",Rows.laid_signalcabin_signalcabinref_Fine)]
theorem abM {W:World} (h:handlesMet prog Iw W):W.cell? ⟨3,0,none⟩=some rv:=by
 obtain⟨name,u,ty,e1,e2,e3,e4,e5⟩:=h _ (amD.2 rfl);have en:name=[101,114,114,111,114]:=(AI e1).symm;subst en;obtain rfl:=AI (adV.symm.trans e2);have hm:ty∈(List.range (465 - 100)).filter fun t=>prog.rowNamed t [101,114,114,111,114]:=List.mem_filter.2 ⟨anA.2 (by rw[<- adY];exact e3),e4⟩;rw[adT]at hm;obtain rfl:=amD.1 hm
 have hh:typeHandle prog 33 = .pointer (some ⟨12,33,none⟩):=ah
 rw[hh]at e5;simpa[rv]using World.var?_cell adP e5 0
theorem aj3 {W:World} {fuel:Nat} {cs:List Value} {y:DataW Unit×List MemPlace} (h:DataW.trod (fun _=>()) prog W 0 (fun _=>true) false fuel 40 cs=some y):∃ n,cs=[.int .i64 n]/\y=(.lit (.int .i64 n),[]):=by
 obtain⟨n,a,b,_⟩:=DataW.trod_int underlying40 h;exact⟨n,a,b⟩
theorem aj4 {W:World} {fuel:Nat} {cs:List Value} {y:DataW Unit×List MemPlace} (h:DataW.trod (fun _=>()) prog W 0 (fun _=>true) false fuel 3 cs=some y):∃ n,cs=[.int .i64 n]/\y=(.lit (.int .i64 n),[]):=by
 obtain⟨n,a,b,_⟩:=DataW.trod_int underlying3 h;exact⟨n,a,b⟩
theorem aa1 {W:World} (h:laidMet prog Ix W):W.cell? ⟨0,0,none⟩=some (.int .i64 0)/\W.cell? ⟨0,1,none⟩=some (.int .i64 (-1)):=by
 obtain⟨ps,hv,_,_⟩:=h;obtain⟨g,t,cs,fuel,p,q,hg,ht,cY,iI,_,_⟩:=hv;obtain rfl:=AI (NO.symm.trans hg);obtain rfl:=AI (adQ.symm.trans ht);obtain⟨y0,y1,n,hx,hl,t0,t1⟩:=trod_struct2 underlying68 iI;refine Exists.elim (aj3 t0) fun n0 q0=>Exists.elim (aj4 t1) fun n1 q1=>?_;have e0:=q0.1;have e1:=q1.1;rw[q0.2,q1.2]at hx;have hd:(DataW.agg [.lit (.int .i64 0),.lit (.int .i64 (-1))]:DataW Unit)=(DataW.agg [.lit (.int .i64 n0),.lit (.int .i64 n1)]:DataW Unit):=congrArg (·.1) hx;simp only[DataW.agg.injEq,anV,DataW.lit.injEq,Lit.int.injEq,true_and,and_true]at hd;have h0:n0=0:=hd.1.symm;have h1:n1 = -1:=hd.2.symm;subst h0 h1
 have c0:cs[0]? = some (.int .i64 0):=by
  rw[ZG]at e0;have:=congrArg (fun l=>l[0]?) e0;simpa using this
 have c1:cs[1]? = some (.int .i64 (-1)):=by
  rw[ZH]at e1;have:=congrArg (fun l=>l[0]?) e1;simpa using this
 exact⟨by rw[World.var?_cell NO cY 0];exact c0,by rw[World.var?_cell NO cY 1];exact c1⟩
theorem RD.ZE {W:World} {X:Nat->Prop} {g:Nat} {u v:Value} (hX:∀ b,¬ X b) (h0:W.cell? ⟨g,0,none⟩=some u) (h1:W.cell? ⟨g,1,none⟩=some v):RD W X (.pointer (some ⟨g,0,none⟩)) (.ip [.v u,.v v]):=by
 refine .ip (f:=fun j=>if j=0 then u else v) (hX _) (yY h0) (fun j hj=>?_) fun j c hc=>?_
 .match j,hj with
  | 0,_=>simpa using h0
  | 1,_=>simpa using h1
 .match j,hc with
  | 0,hc=>simp at hc;subst hc;exact .v _
  | 1,hc=>simp at hc;subst hc;exact .v _
  | j+2,hc=>simp at hc
