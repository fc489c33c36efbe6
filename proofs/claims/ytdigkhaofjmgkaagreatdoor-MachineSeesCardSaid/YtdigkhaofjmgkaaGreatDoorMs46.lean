/- Parts. -/
import Derived.Test.YtdigkhaofjmgkaaGreatDoorMs45
import Derived.Test.YtdigkhaofjmgkaaGreatDoorRows
import Derived.LaidLaws
import Derived.LaidHandle
import Derived.LaidSub
import Derived.Stop.Joined
import Derived.Lay
set_option linter.unusedSimpArgs false
set_option linter.unusedVariables false
open Go.Proofs.Tryz
namespace Go.Proofs.YtdigkhaofjmgkaaGreatDoor
open Go.Av Go.ChangeShapes Go.WideShapes Go.ChangeAt Go.RowKit
theorem Sj:prog.globalNamed "errors.errorType" = some 3:=by kernel_rfl
theorem Sq:(prog.cutTypes.find? (·.1 == "internal/reflectlite.rtype")).map (·.2)=some 289:=by kernel_rfl
theorem Sn:((List.range (512 - 100)).filter fun t=>prog.rowNamed t [101,114,114,111,114])=[36]:=by kernel_rfl
theorem agA:prog.types.size=512 - 100:=by kernel_rfl
theorem Dx:prog.globalNamed "signalcabin/signalcabinref.Fine" = some 2:=by kernel_rfl
theorem Sk:(prog.globals[2]?).map (·.type)=some 124:=by kernel_rfl
theorem Nd:prog.cellsOf 40=1:=by kernel_rfl
def zr:List (String×DataW Unit):=[("errors.errorType",Rows.laid_errors_errorType)]
def afm:List (String×DataW Unit):=[("signalcabin/signalcabinref.Fine",Rows.laid_signalcabin_signalcabinref_Fine)]
theorem PH {W:World} (h:handlesMet prog zr W):W.cell? ⟨3,0,none⟩=some lK:=by
 obtain⟨name,u,ty,e1,e2,e3,e4,e5⟩:=h _ (List.mem_singleton.2 rfl);have en:name=[101,114,114,111,114]:=(Option.some.inj e1).symm;subst en;obtain rfl:=Option.some.inj (Sq.symm.trans e2);have hm:ty∈(List.range (512 - 100)).filter fun t=>prog.rowNamed t [101,114,114,111,114]:=List.mem_filter.2 ⟨List.mem_range.2 (by rw[<- agA];exact e3),e4⟩;rw[Sn]at hm;obtain rfl:=List.mem_singleton.1 hm
 have hh:typeHandle prog 36 = .pointer (some ⟨12,36,none⟩):=by kernel_rfl
 rw[hh]at e5;simpa[lK]using World.var?_cell Sj e5 0
theorem X8 {W:World} {fuel:Nat} {cs:List Value} {y:DataW Unit×List MemPlace} (h:DataW.trod (fun _=>()) prog W 0 (fun _=>true) false fuel 40 cs=some y):∃ n,cs=[.int .i64 n]/\y=(.lit (.int .i64 n),[]):=by
 obtain⟨n,a,b,_⟩:=DataW.trod_int underlying40 h;exact⟨n,a,b⟩
theorem X9 {W:World} {fuel:Nat} {cs:List Value} {y:DataW Unit×List MemPlace} (h:DataW.trod (fun _=>()) prog W 0 (fun _=>true) false fuel 3 cs=some y):∃ n,cs=[.int .i64 n]/\y=(.lit (.int .i64 n),[]):=by
 obtain⟨n,a,b,_⟩:=DataW.trod_int underlying3 h;exact⟨n,a,b⟩
theorem OD {W:World} (h:laidMet prog afm W):W.cell? ⟨2,0,none⟩=some (.int .i64 0)/\W.cell? ⟨2,1,none⟩=some (.int .i64 (-1)):=by
 obtain⟨ps,hv,_,_⟩:=h;obtain⟨g,t,cs,fuel,p,q,hg,ht,hcs,htr,_,_⟩:=hv;obtain rfl:=Option.some.inj (Dx.symm.trans hg);obtain rfl:=Option.some.inj (Sk.symm.trans ht);obtain⟨y0,y1,n,hx,hl,t0,t1⟩:=trod_struct2 underlying124 htr;refine Exists.elim (X8 t0) fun n0 q0=>Exists.elim (X9 t1) fun n1 q1=>?_;have e0:=q0.1;have e1:=q1.1;rw[q0.2,q1.2]at hx;have hd:(DataW.agg [.lit (.int .i64 0),.lit (.int .i64 (-1))]:DataW Unit)=(DataW.agg [.lit (.int .i64 n0),.lit (.int .i64 n1)]:DataW Unit):=congrArg (·.1) hx;simp only[DataW.agg.injEq,List.cons.injEq,DataW.lit.injEq,Lit.int.injEq,true_and,and_true]at hd;have h0:n0=0:=hd.1.symm;have h1:n1 = -1:=hd.2.symm;subst h0 h1
 have c0:cs[0]? = some (.int .i64 0):=by
  rw[Nd]at e0;have:=congrArg (fun l=>l[0]?) e0;simpa using this
 have c1:cs[1]? = some (.int .i64 (-1)):=by
  rw[Nf]at e1;have:=congrArg (fun l=>l[0]?) e1;simpa using this
 exact⟨by rw[World.var?_cell Dx hcs 0];exact c0,by rw[World.var?_cell Dx hcs 1];exact c1⟩
theorem RD.Nb {W:World} {X:Nat->Prop} {g:Nat} {u v:Value} (hX:∀ b,¬ X b) (h0:W.cell? ⟨g,0,none⟩=some u) (h1:W.cell? ⟨g,1,none⟩=some v):RD W X (.pointer (some ⟨g,0,none⟩)) (.ip [.v u,.v v]):=by
 refine .ip (f:=fun j=>if j=0 then u else v) (hX _) (ad7 h0) (fun j hj=>?_) fun j c hc=>?_
 .match j,hj with
  | 0,_=>simpa using h0
  | 1,_=>simpa using h1
 .match j,hc with
  | 0,hc=>simp at hc;subst hc;exact .v _
  | 1,hc=>simp at hc;subst hc;exact .v _
  | j+2,hc=>simp at hc
