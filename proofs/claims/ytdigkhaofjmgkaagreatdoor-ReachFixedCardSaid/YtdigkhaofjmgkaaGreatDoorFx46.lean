/- Parts. -/
import Derived.Test.YtdigkhaofjmgkaaGreatDoorFx45
import Derived.Test.YtdigkhaofjmgkaaGreatDoorRows
import Derived.LaidLaws
import Derived.LaidHandle
import Derived.LaidSub
import Derived.Stop.Joined
import Derived.Lay
set_option linter.unusedSimpArgs false
set_option linter.unusedVariables false
open Go.Proofs.Tryz
namespace Go.Proofs.YtdigkhaofjmgkaaGreatDoor
open Go.Av Go.ChangeShapes Go.WideShapes Go.ChangeAt Go.RowKit
theorem TH:prog.globalNamed "errors.errorType" = some 3:=by kernel_rfl
theorem ahZ:(prog.cutTypes.find? (·.1 == "internal/reflectlite.rtype")).map (·.2)=some 289:=by kernel_rfl
theorem TL:((List.range (512 - 100)).filter fun t=>prog.rowNamed t [101,114,114,111,114])=[36]:=by kernel_rfl
theorem TQ:prog.types.size=512 - 100:=by kernel_rfl
theorem agX:prog.globalNamed "signalcabin/signalcabinref.Fine" = some 2:=by kernel_rfl
theorem ahY:(prog.globals[2]?).map (·.type)=some 124:=by kernel_rfl
theorem Ox:prog.cellsOf 40=1:=by kernel_rfl
def Am:List (String×DataW Unit):=[("errors.errorType",Rows.laid_errors_errorType)]
def An:List (String×DataW Unit):=[("signalcabin/signalcabinref.Fine",Rows.laid_signalcabin_signalcabinref_Fine)]
theorem Q7 {W:World} (h:handlesMet prog Am W):W.cell? ⟨3,0,none⟩=some lZ:=by
 obtain⟨name,u,ty,e1,e2,e3,e4,e5⟩:=h _ (acV.2 rfl);have en:name=[101,114,114,111,114]:=(AI e1).symm;subst en;obtain rfl:=AI (ahZ.symm.trans e2);have hm:ty∈(List.range (512 - 100)).filter fun t=>prog.rowNamed t [101,114,114,111,114]:=List.mem_filter.2 ⟨acW.2 (by rw[<- TQ];exact e3),e4⟩;rw[TL]at hm;obtain rfl:=acV.1 hm
 have hh:typeHandle prog 36 = .pointer (some ⟨12,36,none⟩):=by kernel_rfl
 rw[hh]at e5;simpa[lZ]using World.var?_cell TH e5 0
theorem ZM {W:World} {fuel:Nat} {cs:List Value} {y:DataW Unit×List MemPlace} (h:DataW.trod (fun _=>()) prog W 0 (fun _=>true) false fuel 40 cs=some y):∃ n,cs=[.int .i64 n]/\y=(.lit (.int .i64 n),[]):=by
 obtain⟨n,a,b,_⟩:=DataW.trod_int underlying40 h;exact⟨n,a,b⟩
theorem ZN {W:World} {fuel:Nat} {cs:List Value} {y:DataW Unit×List MemPlace} (h:DataW.trod (fun _=>()) prog W 0 (fun _=>true) false fuel 3 cs=some y):∃ n,cs=[.int .i64 n]/\y=(.lit (.int .i64 n),[]):=by
 obtain⟨n,a,b,_⟩:=DataW.trod_int underlying3 h;exact⟨n,a,b⟩
theorem PU {W:World} (h:laidMet prog An W):W.cell? ⟨2,0,none⟩=some (.int .i64 0)/\W.cell? ⟨2,1,none⟩=some (.int .i64 (-1)):=by
 obtain⟨ps,hv,_,_⟩:=h;obtain⟨g,t,cs,fuel,p,q,hg,ht,b8,nP,_,_⟩:=hv;obtain rfl:=AI (agX.symm.trans hg);obtain rfl:=AI (ahY.symm.trans ht);obtain⟨y0,y1,n,hx,hl,t0,t1⟩:=trod_struct2 underlying124 nP;refine Exists.elim (ZM t0) fun n0 q0=>Exists.elim (ZN t1) fun n1 q1=>?_;have e0:=q0.1;have e1:=q1.1;rw[q0.2,q1.2]at hx;have hd:(DataW.agg [.lit (.int .i64 0),.lit (.int .i64 (-1))]:DataW Unit)=(DataW.agg [.lit (.int .i64 n0),.lit (.int .i64 n1)]:DataW Unit):=congrArg (·.1) hx;simp only[DataW.agg.injEq,aeV,DataW.lit.injEq,Lit.int.injEq,true_and,and_true]at hd;have h0:n0=0:=hd.1.symm;have h1:n1 = -1:=hd.2.symm;subst h0 h1
 have c0:cs[0]? = some (.int .i64 0):=by
  rw[Ox]at e0;have:=congrArg (fun l=>l[0]?) e0;simpa using this
 have c1:cs[1]? = some (.int .i64 (-1)):=by
  rw[Oy]at e1;have:=congrArg (fun l=>l[0]?) e1;simpa using this
 exact⟨by rw[World.var?_cell agX b8 0];exact c0,by rw[World.var?_cell agX b8 1];exact c1⟩
theorem RD.Ou {W:World} {X:Nat->Prop} {g:Nat} {u v:Value} (hX:∀ b,¬ X b) (h0:W.cell? ⟨g,0,none⟩=some u) (h1:W.cell? ⟨g,1,none⟩=some v):RD W X (.pointer (some ⟨g,0,none⟩)) (.ip [.v u,.v v]):=by
 refine .ip (f:=fun j=>if j=0 then u else v) (hX _) (rM h0) (fun j hj=>?_) fun j c hc=>?_
 .match j,hj with
  | 0,_=>simpa using h0
  | 1,_=>simpa using h1
 .match j,hc with
  | 0,hc=>simp at hc;subst hc;exact .v _
  | 1,hc=>simp at hc;subst hc;exact .v _
  | j+2,hc=>simp at hc
