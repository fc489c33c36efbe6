/- Parts. -/
import Derived.Test.YtoohljflflnbeaaGreatDoorBo46
import Derived.Handed
import Derived.Shelf.Vars
set_option linter.unusedSimpArgs false
set_option linter.unusedVariables false
open Go.Proofs.Tryz
namespace Go.Proofs.YtoohljflflnbeaaGreatDoor
open Go.Av Go.ChangeShapes Go.WideShapes Go.ChangeAt Go.RowKit
theorem X0 {H:Type} {enc:TypeId×Value->H} {a:Assume} {C:Checked} {os:Os} {f:FuncId} {fn:Func} {s:ChangeSpec} {conds:List PathCond} {apart fresh handsOn again:Bool} {X:World->Array Value->Prop}
  (hX:∀ (w w':World) (args:Array Value),w.heap=w'.heap->X w args->X w' args)
  (own:ownKnob C.prog.godebug=none) (started:os.Started) (abO:C.prog.inits.idxOf? f=none) (HQ:C.prog.funcs[f]? = some fn)
  (witness:∃ (w:World) (tape:Tape) (i:Input),w.os=os/\(w.forCall tape i).Shaped C.prog/\i.vars=[]/\Input.okWide C.prog (w.forCall tape i) .any w.heap.size f i/\
   ((s.pre enc C.prog fn conds apart (w.forCall tape i).memory i.args/\X (w.forCall tape i).memory i.args)/\sizedMet enc C.prog fn (OpenSpec.ofChange s) apart (w.forCall tape i).memory i.args)/\a.holds C.prog (lone (Frame.enter C.prog f i.args .normal) [] (w.forCall tape i)))
  (VT:∀ (W:World) (base:Nat) (args:Array Value) (ds gs:List (DataW H)) (before:List MemPlace),
   (∀ (j:Nat) t v,fn.params[j]? = some t->args[j]? = some v->Value.okWide C.prog W .any base t v)->
   DataW.Whole enc C.prog fn.params.toList s.vars apart W args.toList ds gs before->X W args->W.ShapedOpen C.prog->
   Calls C.prog f args W fun e W'=>∃ v,e = .returned v/\s.post enc C.prog fn apart fresh handsOn again W args v W') :
  ReturnsInHanded a C os f .any (fun w args=>(s.pre enc C.prog fn conds apart w args/\X w args)/\sizedMet enc C.prog fn (OpenSpec.ofChange s) apart w args) (s.post enc C.prog fn apart fresh handsOn again):=by
 refine returnsInHanded_of_calls own started abO witness ?_;intro w tape i _ xk _ cz Zz _;obtain⟨_,_,_,WV,YE,_,_,_,_,oR⟩:=cz;obtain rfl:WV=fn:=AI (YE.symm.trans HQ);obtain⟨⟨⟨ds,gs,before,hw,_⟩,hx⟩,_⟩:=Zz;refine (VT (w.forCall tape i) w.heap.size i.args ds gs before oR (DataW.Whole.of_heap (w':=w.forCall tape i) (by rfl) hw) (hX _ _ _ (by rfl) hx) xk).mono fun e W' ⟨v,he,hp⟩=>?_;subst he;exact ChangeSpec.post_blind hp
theorem abn {W:World} (h:W.ShapedOpen prog):∃ m,W.cell? ⟨5,0,none⟩=some (.int .i64 m):=
 Go.Proofs.cell_of_shapedOpen_int (zero:=#[.int .i64 0]) (t:=3) h (by decide +kernel) ah rfl ah ah ah
theorem Vx:prog.cellsOf 9=1:=ah
def B9 (ws:List Tx):List (DataW Unit):=ws.map fun s=>.lit (.string s)
theorem Vq {s:ByteArray} {t:Tx} (h:s.data.toList=t):s=bs t:=by subst h;cases s;simp[bs]
theorem Rw {W:World} {nm:String} {g:Nat} {ws:List Tx} (bl:ws≠[]) (hg:prog.globalNamed nm=some g) (hT:(prog.globals[g]?).map (·.type)=some 58)
  (h:laidMet prog [(nm,.slice (B9 ws) [])] W):RD W (fun _=>False) (.pointer (some ⟨g,0,none⟩)) (.ip [.sl none (ws.map fun s=>[.v (.string (bs s))])]):=by
 obtain⟨ps,hv,_,_⟩:=h;obtain⟨g',t,cs,fuel,p,q,HS,ht,cX,lp,_,_⟩:=hv;obtain rfl:=AI (hg.symm.trans HS);obtain rfl:=AI (hT.symm.trans ht)
 rcases Deep.open_slice1 underlying58 Vx lp with⟨_,hx⟩ | ⟨a,len,cap,m,n,V,Dd,Pl,cN,hb,hl,hm,Ig,hx,bz⟩
 .have:=congrArg (·.1) hx;cases this
 have hD:(DataW.slice (B9 ws) []:DataW Unit)=DataW.slice ((List.range len).map Dd) ((List.range (m - len)).map fun j=>Dd (len+j)):=congrArg (·.1) hx;simp only[DataW.slice.injEq]at hD
 have hlen:ws.length=len:=by have:=congrArg List.length hD.1;simpa[B9]using this
 have hlm:len<=m:=by rw[Ig];split<;>omega
 have each:∀ i (hi:i < ws.length),W.cell? (a.add i)=some (.string (bs ws[i])):=fun i hi=>by
  obtain⟨h1,h2⟩:=bz i aa;obtain⟨s,e1,e2,_⟩:=DataW.trod_string underlying9 h2;have e3:Dd i = .lit (.string s.data.toList):=congrArg (·.1) e2
  have e4:(B9 ws)[i]? = ((List.range len).map Dd)[i]?:=by rw[hD.1]
  rw[B9,agC,By hi,agC,List.getElem?_range aa]at e4;simp only[ag1,IT,e3,DataW.lit.injEq,Lit.string.injEq]at e4;have e5:=Vq e4.symm
  have iS:V i = .string s:=by simpa using e1
  rw[h1,iS,e5]
 have vb:0 < ws.length:=ahu.2 bl;have h0:=each 0 vb
 have BU:a.spot=none:=by
  have yN:=h0;simp only[Addr.add,if_true]at yN;exact World.cell?_spot yN
 obtain⟨b,off,spot⟩:=a;dsimp only at BU;subst BU
 have lf:W.cell? ⟨g,0,none⟩=some (.slice (some ⟨b,off,none⟩) len cap):=by rw[World.var?_cell hg cX 0,<- agH,cN];rfl
 refine .ip (f:=fun _=>.slice (some ⟨b,off,none⟩) len cap) ak (wc lf) (fun j hj=>?_) fun j c hc=>?_
 .have:j=0:=by simpa using hj
  subst this;exact lf
 have hj:j=0:=by have:=(BY.1 hc).1;simpa using this
 subst hj
 obtain rfl:D.sl none (ws.map fun s=>[.v (.string (bs s))])=c:=by simpa using hc
 refine .sl (sz:=1) (f:=fun i _=>(W.cell? ⟨b,off+i,none⟩).getD undef) ak (by simpa using hlen) hl hm ak (fun el bz=>?_) aa aa (fun i j hi hj=>?_) (fun i j el c h1 h2=>?_)
 .obtain⟨y,_,rfl⟩:=ag3.1 bz;rfl
 .obtain rfl:j=0:=aa
  have:=each i aa;rw[addr_add]at this;simp only[ahK,ahB];rw[this];rfl
 .rw[agC]at h1;obtain⟨y,hy,rfl⟩:=AS.1 h1;obtain⟨aG,rfl⟩:=BY.1 hy
  have mz:j=0:=by have:=(BY.1 h2).1;simpa using this
  subst mz
  obtain rfl:D.v (.string (bs ws[i]))=c:=by simpa using h2
  have:=each i aG;rw[addr_add]at this;rw[this];exact .v _
def Jf:List (String×DataW Unit):=[("signalcabin/signalcabinref.nameWords",Rows.laid_signalcabin_signalcabinref_nameWords)]
def Jg:List (String×DataW Unit):=[("signalcabin/signalcabinref.rungWords",Rows.laid_signalcabin_signalcabinref_rungWords)]
def Fi:List Tx:=[[],[105,110,112,117,116],[99,111,105,108],[116,105,109,101,114],[99,111,117,110,116,101,114]]
def FK:List Tx:=[[],[],[115,101,116],[114,101,115,101,116],[114,117,110],[99,111,117,110,116],[122,101,114,111]]
theorem aau:prog.globalNamed "signalcabin/signalcabinref.nameWords" = some 2:=by kernel_rfl
theorem aav:(prog.globals[2]?).map (·.type)=some 58:=ah
theorem aaz:prog.globalNamed "signalcabin/signalcabinref.rungWords" = some 3:=by kernel_rfl
theorem aaA:(prog.globals[3]?).map (·.type)=some 58:=ah
