/- Parts. -/
import Derived.Test.YtobejfcgcfdpfaaGreatDoorPc47
import Derived.Handed
import Derived.Shelf.Vars
set_option linter.unusedSimpArgs false
set_option linter.unusedVariables false
open Go.Proofs.Tryz
namespace Go.Proofs.YtobejfcgcfdpfaaGreatDoor
open Go.Av Go.ChangeShapes Go.WideShapes Go.ChangeAt Go.RowKit
theorem abL {H:Type} {enc:TypeId×Value->H} {a:Assume} {C:Checked} {os:Os} {f:FuncId} {fn:Func} {s:ChangeSpec} {conds:List PathCond} {apart fresh handsOn again:Bool} {X:World->Array Value->Prop}
  (hX:∀ (w w':World) (args:Array Value),w.heap=w'.heap->X w args->X w' args)
  (own:ownKnob C.prog.godebug=none) (started:os.Started) (afi:C.prog.inits.idxOf? f=none) (v8:C.prog.funcs[f]? = some fn)
  (witness:∃ (w:World) (tape:Tape) (i:Input),w.os=os/\(w.forCall tape i).Shaped C.prog/\i.vars=[]/\Input.okWide C.prog (w.forCall tape i) .any w.heap.size f i/\
   ((s.pre enc C.prog fn conds apart (w.forCall tape i).memory i.args/\X (w.forCall tape i).memory i.args)/\sizedMet enc C.prog fn (OpenSpec.ofChange s) apart (w.forCall tape i).memory i.args)/\a.holds C.prog (lone (Frame.enter C.prog f i.args .normal) [] (w.forCall tape i)))
  (Z5:∀ (W:World) (base:Nat) (args:Array Value) (ds gs:List (DataW H)) (before:List MemPlace),
   (∀ (j:Nat) t v,fn.params[j]? = some t->args[j]? = some v->Value.okWide C.prog W .any base t v)->
   DataW.Whole enc C.prog fn.params.toList s.vars apart W args.toList ds gs before->X W args->W.ShapedOpen C.prog->
   Calls C.prog f args W fun e W'=>∃ v,e = .returned v/\s.post enc C.prog fn apart fresh handsOn again W args v W') :
  ReturnsInHanded a C os f .any (fun w args=>(s.pre enc C.prog fn conds apart w args/\X w args)/\sizedMet enc C.prog fn (OpenSpec.ofChange s) apart w args) (s.post enc C.prog fn apart fresh handsOn again):=by
 refine returnsInHanded_of_calls own started afi witness ?_;intro w tape i _ wA _ cf acV _;obtain⟨_,_,_,fn',aci,_,_,_,_,qg⟩:=cf;obtain rfl:fn'=fn:=AI (aci.symm.trans v8);obtain⟨⟨⟨ds,gs,before,hw,_⟩,hx⟩,_⟩:=acV;refine (Z5 (w.forCall tape i) w.heap.size i.args ds gs before qg (DataW.Whole.of_heap (w':=w.forCall tape i) (by rfl) hw) (hX _ _ _ (by rfl) hx) wA).mono fun e W' ⟨v,he,hp⟩=>?_;subst he;exact ChangeSpec.post_blind hp
theorem aeT {W:World} (h:W.ShapedOpen prog):∃ m,W.cell? ⟨4,0,none⟩=some (.int .i64 m):=
 Go.Proofs.cell_of_shapedOpen_int (zero:=#[.int .i64 0]) (t:=3) h (by decide +kernel) ah rfl ah ah ah
theorem ZF:prog.cellsOf 9=1:=ah
def EX (ws:List Tx):List (DataW Unit):=ws.map fun s=>.lit (.string s)
theorem Zx {s:ByteArray} {t:Tx} (h:s.data.toList=t):s=bs t:=by subst h;cases s;simp[bs]
theorem Xe {W:World} {nm:String} {g:Nat} {ws:List Tx} (bq:ws≠[]) (hg:prog.globalNamed nm=some g) (hT:(prog.globals[g]?).map (·.type)=some 77)
  (h:laidMet prog [(nm,.slice (EX ws) [])] W):RD W (fun _=>False) (.pointer (some ⟨g,0,none⟩)) (.ip [.sl none (ws.map fun s=>[.v (.string (bs s))])]):=by
 obtain⟨ps,hv,_,_⟩:=h;obtain⟨g',t,cs,fuel,p,q,Mk,ht,cY,iI,_,_⟩:=hv;obtain rfl:=AI (hg.symm.trans Mk);obtain rfl:=AI (hT.symm.trans ht)
 rcases Deep.open_slice1 underlying77 ZF iI with⟨_,hx⟩ | ⟨a,len,cap,m,n,V,Dd,Pl,cH,hb,hl,hm,hmm,hx,bn⟩
 .have:=congrArg (·.1) hx;cases this
 have hD:(DataW.slice (EX ws) []:DataW Unit)=DataW.slice ((List.range len).map Dd) ((List.range (m - len)).map fun j=>Dd (len+j)):=congrArg (·.1) hx;simp only[DataW.slice.injEq]at hD
 have hlen:ws.length=len:=by have:=congrArg List.length hD.1;simpa[EX]using this
 have hlm:len<=m:=by rw[hmm];split<;>omega
 have each:∀ i (hi:i < ws.length),W.cell? (a.add i)=some (.string (bs ws[i])):=fun i hi=>by
  obtain⟨h1,h2⟩:=bn i aa;obtain⟨s,e1,e2,_⟩:=DataW.trod_string underlying9 h2;have e3:Dd i = .lit (.string s.data.toList):=congrArg (·.1) e2
  have e4:(EX ws)[i]? = ((List.range len).map Dd)[i]?:=by rw[hD.1]
  rw[EX,amm,AT hi,amm,List.getElem?_range aa]at e4;simp only[amI,IT,e3,DataW.lit.injEq,Lit.string.injEq]at e4;have e5:=Zx e4.symm
  have jG:V i = .string s:=by simpa using e1
  rw[h1,jG,e5]
 have qL:0 < ws.length:=anc.2 bq;have h0:=each 0 qL
 have TL:a.spot=none:=by
  have GY:=h0;simp only[Addr.add,if_true]at GY;exact World.cell?_spot GY
 obtain⟨b,off,spot⟩:=a;dsimp only at TL;subst TL
 have l9:W.cell? ⟨g,0,none⟩=some (.slice (some ⟨b,off,none⟩) len cap):=by rw[World.var?_cell hg cY 0,<- ams,cH];rfl
 refine .ip (f:=fun _=>.slice (some ⟨b,off,none⟩) len cap) ak (yY l9) (fun j hj=>?_) fun j c hc=>?_
 .have:j=0:=by simpa using hj
  subst this;exact l9
 have hj:j=0:=by have:=(BY.1 hc).1;simpa using this
 subst hj
 obtain rfl:D.sl none (ws.map fun s=>[.v (.string (bs s))])=c:=by simpa using hc
 refine .sl (sz:=1) (f:=fun i _=>(W.cell? ⟨b,off+i,none⟩).getD undef) ak (by simpa using hlen) hl hm ak (fun el bn=>?_) aa aa (fun i j hi hj=>?_) (fun i j el c h1 h2=>?_)
 .obtain⟨y,_,rfl⟩:=amS.1 bn;rfl
 .obtain rfl:j=0:=aa
  have:=each i aa;rw[addr_add]at this;simp only[anx,anj];rw[this];rfl
 .rw[amm]at h1;obtain⟨y,hy,rfl⟩:=AS.1 h1;obtain⟨aG,rfl⟩:=BY.1 hy
  have n9:j=0:=by have:=(BY.1 h2).1;simpa using this
  subst n9
  obtain rfl:D.v (.string (bs ws[i]))=c:=by simpa using h2
  have:=each i aG;rw[addr_add]at this;rw[this];exact .v _
def NL:List (String×DataW Unit):=[("signalcabin/signalcabinref.nameWords",Rows.laid_signalcabin_signalcabinref_nameWords)]
def NM:List (String×DataW Unit):=[("signalcabin/signalcabinref.rungWords",Rows.laid_signalcabin_signalcabinref_rungWords)]
def IW:List Tx:=[[],[105,110,112,117,116],[99,111,105,108],[116,105,109,101,114],[99,111,117,110,116,101,114]]
def Jr:List Tx:=[[],[],[115,101,116],[114,101,115,101,116],[114,117,110],[99,111,117,110,116],[122,101,114,111]]
theorem adR:prog.globalNamed "signalcabin/signalcabinref.nameWords" = some 2:=by kernel_rfl
theorem adS:(prog.globals[2]?).map (·.type)=some 77:=ah
theorem adW:prog.globalNamed "signalcabin/signalcabinref.rungWords" = some 1:=by kernel_rfl
theorem adX:(prog.globals[1]?).map (·.type)=some 77:=ah
