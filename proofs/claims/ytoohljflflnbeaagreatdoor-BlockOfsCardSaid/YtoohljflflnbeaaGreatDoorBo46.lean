/- Parts. -/
import Derived.Test.YtoohljflflnbeaaGreatDoorBo45
import Derived.Test.YtoohljflflnbeaaGreatDoorRows
import Derived.LaidLaws
import Derived.LaidHandle
import Derived.LaidSub
import Derived.Stop.Joined
import Derived.Lay
set_option linter.unusedSimpArgs false
set_option linter.unusedVariables false
open Go.Proofs.Tryz
namespace Go.Proofs.YtoohljflflnbeaaGreatDoor
open Go.Av Go.ChangeShapes Go.WideShapes Go.ChangeAt Go.RowKit
theorem aas:prog.globalNamed "errors.errorType" = some 4:=by kernel_rfl
theorem aay:(prog.cutTypes.find? (·.1 == "internal/reflectlite.rtype")).map (·.2)=some 363:=by kernel_rfl
theorem aaw:((List.range (580 - 100)).filter fun t=>prog.rowNamed t [101,114,114,111,114])=[30]:=ah
theorem aaB:prog.types.size=580 - 100:=ah
theorem Jh:prog.globalNamed "signalcabin/signalcabinref.Fine" = some 0:=by kernel_rfl
theorem aat:(prog.globals[0]?).map (·.type)=some 52:=ah
theorem Vy:prog.cellsOf 50=1:=ah
def E0:List (String×DataW Unit):=[("errors.errorType",Rows.laid_errors_errorType)]
def E3:List (String×DataW Unit):=[("signalcabin/signalcabinref.Fine",Rows.laid_signalcabin_signalcabinref_Fine)]
theorem X1 {W:World} (h:handlesMet prog E0 W):W.cell? ⟨4,0,none⟩=some pW:=by
 obtain⟨name,u,ty,e1,e2,e3,e4,e5⟩:=h _ (ahc.2 rfl);have en:name=[101,114,114,111,114]:=(AI e1).symm;subst en;obtain rfl:=AI (aay.symm.trans e2);have hm:ty∈(List.range (580 - 100)).filter fun t=>prog.rowNamed t [101,114,114,111,114]:=List.mem_filter.2 ⟨ahC.2 (by rw[<- aaB];exact e3),e4⟩;rw[aaw]at hm;obtain rfl:=ahc.1 hm
 have hh:typeHandle prog 30 = .pointer (some ⟨13,30,none⟩):=ah
 rw[hh]at e5;simpa[pW]using World.var?_cell aas e5 0
theorem aeC {W:World} {fuel:Nat} {cs:List Value} {y:DataW Unit×List MemPlace} (h:DataW.trod (fun _=>()) prog W 0 (fun _=>true) false fuel 50 cs=some y):∃ n,cs=[.int .i64 n]/\y=(.lit (.int .i64 n),[]):=by
 obtain⟨n,a,b,_⟩:=DataW.trod_int underlying50 h;exact⟨n,a,b⟩
theorem aeD {W:World} {fuel:Nat} {cs:List Value} {y:DataW Unit×List MemPlace} (h:DataW.trod (fun _=>()) prog W 0 (fun _=>true) false fuel 3 cs=some y):∃ n,cs=[.int .i64 n]/\y=(.lit (.int .i64 n),[]):=by
 obtain⟨n,a,b,_⟩:=DataW.trod_int underlying3 h;exact⟨n,a,b⟩
theorem WT {W:World} (h:laidMet prog E3 W):W.cell? ⟨0,0,none⟩=some (.int .i64 0)/\W.cell? ⟨0,1,none⟩=some (.int .i64 (-1)):=by
 obtain⟨ps,hv,_,_⟩:=h;obtain⟨g,t,cs,fuel,p,q,hg,ht,cX,lp,_,_⟩:=hv;obtain rfl:=AI (Jh.symm.trans hg);obtain rfl:=AI (aat.symm.trans ht);obtain⟨y0,y1,n,hx,hl,t0,t1⟩:=trod_struct2 underlying52 lp;refine Exists.elim (aeC t0) fun n0 q0=>Exists.elim (aeD t1) fun n1 q1=>?_;have e0:=q0.1;have e1:=q1.1;rw[q0.2,q1.2]at hx;have hd:(DataW.agg [.lit (.int .i64 0),.lit (.int .i64 (-1))]:DataW Unit)=(DataW.agg [.lit (.int .i64 n0),.lit (.int .i64 n1)]:DataW Unit):=congrArg (·.1) hx;simp only[DataW.agg.injEq,ah8,DataW.lit.injEq,Lit.int.injEq,true_and,and_true]at hd;have h0:n0=0:=hd.1.symm;have h1:n1 = -1:=hd.2.symm;subst h0 h1
 have c0:cs[0]? = some (.int .i64 0):=by
  rw[Vy]at e0;have:=congrArg (fun l=>l[0]?) e0;simpa using this
 have c1:cs[1]? = some (.int .i64 (-1)):=by
  rw[Vz]at e1;have:=congrArg (fun l=>l[0]?) e1;simpa using this
 exact⟨by rw[World.var?_cell Jh cX 0];exact c0,by rw[World.var?_cell Jh cX 1];exact c1⟩
theorem RD.Vw {W:World} {X:Nat->Prop} {g:Nat} {u v:Value} (hX:∀ b,¬ X b) (h0:W.cell? ⟨g,0,none⟩=some u) (h1:W.cell? ⟨g,1,none⟩=some v):RD W X (.pointer (some ⟨g,0,none⟩)) (.ip [.v u,.v v]):=by
 refine .ip (f:=fun j=>if j=0 then u else v) (hX _) (wc h0) (fun j hj=>?_) fun j c hc=>?_
 .match j,hj with
  | 0,_=>simpa using h0
  | 1,_=>simpa using h1
 .match j,hc with
  | 0,hc=>simp at hc;subst hc;exact .v _
  | 1,hc=>simp at hc;subst hc;exact .v _
  | j+2,hc=>simp at hc
section
variable {H:Type} {enc:TypeId×Value->H} {w:World} {base:Nat} {spare:Nat->Bool} {held:Bool} {X:Nat->Prop}
theorem acT:C9 enc prog w base spare held X 9 (fun _:List UInt8=>True) (fun s=>[dS s]):=by
 intro fuel cs x h;obtain⟨s,rfl,rfl,_⟩:=DataW.trod_string underlying9 h;refine⟨s.data.toList,trivial,.one ?_⟩;unfold dS
 have:bs s.data.toList=s:=by cases s;simp[bs]
 rw[this];exact .v _
theorem VA:prog.cellsOf 9=1:=ah
def V5 (l:List (List UInt8)):D:=.sl none (l.map fun s=>[dS s])
theorem acU (hX:∀ b,¬ X b):C9 enc prog w base spare held X 58 (fun _:List (List UInt8)=>True) (fun l=>[V5 l]):=by
 intro fuel cs x h;obtain⟨l,_,hr⟩:=acS underlying58 VA aa hX acT fuel cs x h;exact⟨l,trivial,hr⟩
end
