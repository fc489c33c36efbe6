/- Parts. -/
import Derived.Test.YtoohljflflnbeaaGreatDoorSt43
import Derived.Handed
import Derived.Shelf.Vars
set_option linter.unusedSimpArgs false
set_option linter.unusedVariables false
open Go.Proofs.Tryz
namespace Go.Proofs.YtoohljflflnbeaaGreatDoor
open Go.Av Go.ChangeShapes Go.WideShapes Go.ChangeAt Go.RowKit
theorem QY {H:Type} {enc:TypeId×Value->H} {a:Assume} {C:Checked} {os:Os} {f:FuncId} {fn:Func} {s:ChangeSpec} {conds:List PathCond} {apart fresh handsOn again:Bool} {X:World->Array Value->Prop}
  (hX:∀ (w w':World) (args:Array Value),w.heap=w'.heap->X w args->X w' args)
  (own:ownKnob C.prog.godebug=none) (started:os.Started) (U5:C.prog.inits.idxOf? f=none) (EG:C.prog.funcs[f]? = some fn)
  (witness:∃ (w:World) (tape:Tape) (i:Input),w.os=os/\(w.forCall tape i).Shaped C.prog/\i.vars=[]/\Input.okWide C.prog (w.forCall tape i) .any w.heap.size f i/\
   ((s.pre enc C.prog fn conds apart (w.forCall tape i).memory i.args/\X (w.forCall tape i).memory i.args)/\sizedMet enc C.prog fn (OpenSpec.ofChange s) apart (w.forCall tape i).memory i.args)/\a.holds C.prog (lone (Frame.enter C.prog f i.args .normal) [] (w.forCall tape i)))
  (Po:∀ (W:World) (base:Nat) (args:Array Value) (ds gs:List (DataW H)) (before:List MemPlace),
   (∀ (j:Nat) t v,fn.params[j]? = some t->args[j]? = some v->Value.okWide C.prog W .any base t v)->
   DataW.Whole enc C.prog fn.params.toList s.vars apart W args.toList ds gs before->X W args->W.ShapedOpen C.prog->
   Calls C.prog f args W fun e W'=>∃ v,e = .returned v/\s.post enc C.prog fn apart fresh handsOn again W args v W') :
  ReturnsInHanded a C os f .any (fun w args=>(s.pre enc C.prog fn conds apart w args/\X w args)/\sizedMet enc C.prog fn (OpenSpec.ofChange s) apart w args) (s.post enc C.prog fn apart fresh handsOn again):=by
 refine returnsInHanded_of_calls own started U5 witness ?_;intro w tape i _ yQ _ cG SK _;obtain⟨_,_,_,Qq,RI,_,_,_,_,sZ⟩:=cG;obtain rfl:Qq=fn:=AI (RI.symm.trans EG);obtain⟨⟨⟨ds,gs,before,hw,_⟩,hx⟩,_⟩:=SK;refine (Po (w.forCall tape i) w.heap.size i.args ds gs before sZ (DataW.Whole.of_heap (w':=w.forCall tape i) (by rfl) hw) (hX _ _ _ (by rfl) hx) yQ).mono fun e W' ⟨v,he,hp⟩=>?_;subst he;exact ChangeSpec.post_blind hp
theorem Uz {W:World} (h:W.ShapedOpen prog):∃ m,W.cell? ⟨5,0,none⟩=some (.int .i64 m):=
 Go.Proofs.cell_of_shapedOpen_int (zero:=#[.int .i64 0]) (t:=3) h (by decide +kernel) ag rfl ag ag ag
theorem Is:prog.cellsOf 9=1:=ag
theorem O9:prog.cellsOf 187=7:=ag
def r8 (ws:List Tx):List (DataW Unit):=ws.map fun s=>.lit (.string s)
theorem Ig {s:ByteArray} {t:Tx} (h:s.data.toList=t):s=bs t:=by subst h;cases s;simp[bs]
theorem M0 {W:World} {nm:String} {g:Nat} {ws:List Tx} (bw:ws≠[]) (hg:prog.globalNamed nm=some g) (hT:(prog.globals[g]?).map (·.type)=some 58)
  (h:laidMet prog [(nm,.slice (r8 ws) [])] W):RD W (fun _=>False) (.pointer (some ⟨g,0,none⟩)) (.ip [.sl none (ws.map fun s=>[.v (.string (bs s))])]):=by
 obtain⟨ps,hv,_,_⟩:=h;obtain⟨g',t,cs,fuel,p,q,qq,ht,cK,oJ,_,_⟩:=hv;obtain rfl:=AI (hg.symm.trans qq);obtain rfl:=AI (hT.symm.trans ht)
 rcases Deep.open_slice1 underlying58 Is oJ with⟨_,hx⟩ | ⟨a,len,cap,m,n,V,Dd,Pl,e6,hb,hl,hm,Sm,hx,bu⟩
 .have:=congrArg (·.1) hx;cases this
 have hD:(DataW.slice (r8 ws) []:DataW Unit)=DataW.slice ((List.range len).map Dd) ((List.range (m - len)).map fun j=>Dd (len+j)):=congrArg (·.1) hx;simp only[DataW.slice.injEq]at hD
 have hlen:ws.length=len:=by have:=congrArg List.length hD.1;simpa[r8]using this
 have Z9:len<=m:=by rw[Sm];split<;>omega
 have each:∀ i (hi:i < ws.length),W.cell? (a.add i)=some (.string (bs ws[i])):=fun i hi=>by
  obtain⟨h1,h2⟩:=bu i aa;obtain⟨s,e1,e2,_⟩:=DataW.trod_string underlying9 h2;have e3:Dd i = .lit (.string s.data.toList):=congrArg (·.1) e2
  have e4:(r8 ws)[i]? = ((List.range len).map Dd)[i]?:=by rw[hD.1]
  rw[r8,aa3,IN hi,aa3,List.getElem?_range aa]at e4;simp only[abC,BY,e3,DataW.lit.injEq,Lit.string.injEq]at e4;have e5:=Ig e4.symm
  have oK:V i = .string s:=by simpa using e1
  rw[h1,oK,e5]
 have qy:0 < ws.length:=abG.2 bw;have h0:=each 0 qy
 have J9:a.spot=none:=by
  have A5:=h0;simp only[Addr.add,if_true]at A5;exact World.cell?_spot A5
 obtain⟨b,off,spot⟩:=a;dsimp only at J9;subst J9
 have gA:W.cell? ⟨g,0,none⟩=some (.slice (some ⟨b,off,none⟩) len cap):=by rw[World.var?_cell hg cK 0,<- abc,e6];rfl
 refine .ip (f:=fun _=>.slice (some ⟨b,off,none⟩) len cap) al (sC gA) (fun j hj=>?_) fun j c hc=>?_
 .have:j=0:=by simpa using hj
  subst this;exact gA
 have hj:j=0:=by have:=(By.1 hc).1;simpa using this
 subst hj
 obtain rfl:D.sl none (ws.map fun s=>[.v (.string (bs s))])=c:=by simpa using hc
 refine .sl (sz:=1) (f:=fun i _=>(W.cell? ⟨b,off+i,none⟩).getD undef) al (by simpa using hlen) hl hm al (fun el bu=>?_) aa aa (fun i j hi hj=>?_) (fun i j el c h1 h2=>?_)
 .obtain⟨y,_,rfl⟩:=abE.1 bu;rfl
 .obtain rfl:j=0:=aa
  have:=each i aa;rw[addr_add]at this;simp only[ab3,abT];rw[this];rfl
 .rw[aa3]at h1;obtain⟨y,hy,rfl⟩:=AS.1 h1;obtain⟨bf,rfl⟩:=By.1 hy
  have nB:j=0:=by have:=(By.1 h2).1;simpa using this
  subst nB
  obtain rfl:D.v (.string (bs ws[i]))=c:=by simpa using h2
  have:=each i bf;rw[addr_add]at this;rw[this];exact .v _
theorem OE {W:World} {nm:String} {g:Nat} {ws:List Tx} (h7:ws.length=7) (hg:prog.globalNamed nm=some g) (hT:(prog.globals[g]?).map (·.type)=some 187)
  (h:laidMet prog [(nm,.agg (r8 ws))] W):RD W (fun _=>False) (.pointer (some ⟨g,0,none⟩)) (.ip (ws.map fun s=>.v (.string (bs s)))):=by
 obtain⟨ps,hv,_,_⟩:=h;obtain⟨g',t,cs,fuel,p,q,qq,ht,cK,oJ,_,_⟩:=hv;obtain rfl:=AI (hg.symm.trans qq);obtain rfl:=AI (hT.symm.trans ht);obtain⟨xs,m,_,hx,hl,lQ,bu⟩:=DataW.trod_array underlying187 oJ;rw[O9]at hl;have hD:(DataW.agg (r8 ws):DataW Unit)=DataW.agg (xs.map (·.1)):=congrArg (·.1) hx;simp only[DataW.agg.injEq]at hD
 have each:∀ i (hi:i < ws.length),W.cell? ⟨g,i,none⟩=some (.string (bs ws[i])):=fun i hi=>by
  have h2:=bu i aa;rw[Is,ab3,IN aa]at h2;obtain⟨s,e1,e2,_⟩:=DataW.trod_string underlying9 h2
  have e3:(xs[i]' aa).1 = .lit (.string s.data.toList):=by rw[e2]
  have e4:(r8 ws)[i]? = (xs.map (·.1))[i]?:=by rw[hD]
  rw[r8,aa3,IN hi,aa3,IN aa]at e4;simp only[abC,BY,e3,DataW.lit.injEq,Lit.string.injEq]at e4;have e5:=Ig e4.symm
  have c0:cs[i]? = some (.string s):=by
   have:=congrArg (fun l=>l[0]?) e1;simpa using this
  rw[World.var?_cell hg cK i,<- e5];exact c0
 refine .ip (f:=fun j=>(W.cell? ⟨g,j,none⟩).getD undef) al (sC (each 0 aa)) (fun j hj=>?_) fun j c hc=>?_
 .rw[abe];have:=each j (by simpa using hj);rw[this];rfl
 .rw[aa3]at hc;obtain⟨y,hy,rfl⟩:=AS.1 hc;obtain⟨bf,rfl⟩:=By.1 hy;rw[each j bf];exact .v _
def FY:List (String×DataW Unit):=[("signalcabin/ladder.heads",Rows.laid_signalcabin_ladder_heads)]
def FZ:List (String×DataW Unit):=[("signalcabin/signalcabinref.nameWords",Rows.laid_signalcabin_signalcabinref_nameWords)]
def F0:List (String×DataW Unit):=[("signalcabin/signalcabinref.rungWords",Rows.laid_signalcabin_signalcabinref_rungWords)]
def Cb:List Tx:=[[],[105,110,112,117,116],[99,111,105,108],[116,105,109,101,114],[99,111,117,110,116,101,114]]
def Cw:List Tx:=[[],[],[115,101,116],[114,101,115,101,116],[114,117,110],[99,111,117,110,116],[122,101,114,111]]
def Rw:List Tx:=[[],[],[115,101,116,32],[114,101,115,101,116,32],[114,117,110,32],[99,111,117,110,116,32],[122,101,114,111,32]]
theorem TO:prog.globalNamed "signalcabin/ladder.heads" = some 1:=by kernel_rfl
theorem TP:(prog.globals[1]?).map (·.type)=some 187:=ag
theorem TQ:prog.globalNamed "signalcabin/signalcabinref.nameWords" = some 2:=by kernel_rfl
theorem TR:(prog.globals[2]?).map (·.type)=some 58:=ag
theorem TV:prog.globalNamed "signalcabin/signalcabinref.rungWords" = some 3:=by kernel_rfl
theorem TW:(prog.globals[3]?).map (·.type)=some 58:=ag
