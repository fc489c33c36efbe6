/- Parts. -/
import Derived.Test.YtdigkhaofjmgkaaGreatDoorFx35
import Derived.Test.YtdigkhaofjmgkaaGreatDoorFx36
import Derived.Test.YtdigkhaofjmgkaaGreatDoorFx37
import Derived.Test.YtdigkhaofjmgkaaGreatDoorFx38
import Derived.Test.YtdigkhaofjmgkaaGreatDoorFx39
import Derived.Test.YtdigkhaofjmgkaaGreatDoorFx40
import Derived.Lib.ParseIntBTie
set_option linter.unusedSectionVars false
set_option linter.unusedSimpArgs false
set_option linter.unusedVariables false
set_option maxHeartbeats 16000000
set_option maxRecDepth 100000
open Go.Proofs.Tryz
namespace Go.Proofs.YtdigkhaofjmgkaaGreatDoor
open Go.Av Go.Shelf Go.RowKit
def ae1 (G:aq):Prop:=G 7=some (.lN (Lib.pow10Tab.map fun z=>Value.int .u64 z).toArray)
def v7 (v:Value):Prop:=v = .nilIface\/∃ te pe,v = .iface te pe
def o0 (G:aq) (es er:Value):Prop:=(G 5=some (.ip [.v es])/\v7 es)/\G 6=some (.ip [.v er])/\v7 er
theorem zd {G:aq} {g:Nat} {v:Value} {w:World} {X:Nat->Prop} (hm:G g=some (.ip [.v v])) (hgl:∀ g x,G g=some x->RD w X (.pointer (some ⟨g,0,none⟩)) x):w.cell? ⟨g,0,none⟩=some v:=by
 obtain⟨b',off,f,hp,_,_,cI,hr⟩:=(hgl _ _ hm).aeN;have h0:=cI 0 (by simp);have h1:=(hr 0 _ rfl).scalar;rw[h1]at h0;injection hp with hp;injection hp with hp;injection hp with hp1 ey _;subst hp1 ey;exact h0
theorem KQ {G:aq} (h:ae1 G) {w:World} {X:Nat->Prop} (hgl:∀ g x,G g=some x->RD w X (.pointer (some ⟨g,0,none⟩)) x):Lib.TabIs prog w "internal/strconv.uint64pow10" .u64 Lib.pow10Tab:=by
 have h1:=hgl _ _ h
 obtain⟨ty,fr,hh⟩:∃ ty fr,w.heap[7]? = some (.cells (Lib.pow10Tab.map fun z=>Value.int .u64 z).toArray ty fr):=by
  generalize hy:D.lN _=y at h1;cases h1<;>cases hy;exact⟨_,_,by assumption⟩
 unfold Lib.TabIs World.var?;rw[show prog.globalNamed "internal/strconv.uint64pow10" = some 7 by kernel_rfl];simp only[ae5,hh]
theorem HQ (w:World) (os:Array Obj):bZ w (Go.Sort.grow w os):=⟨by simp[Go.Sort.grow],rfl,rfl,rfl,fun b hb=>by simp[Go.Sort.grow,acM hb]⟩
theorem bZ.trans' {w w1 w2:World} (h:bZ w w1) (h2:bZ w1 w2):bZ w w2:=⟨aew h.size h2.size,h2.os.trans h.os,h2.tape.trans h.tape,h2.output.trans h.output,fun b hb=>(h2.same b (acP hb h.size)).trans (h.same b hb)⟩
theorem JU (G:aq) (hP:ae1 G) (n:Int) (h0:-9223372036854775808<=n) (h1:n<=9223372036854775807):ar prog G 177 [.v (.int .i64 n)] (dS (Lib.itoa n)):=by
 refine ar.nV (fe.of func177 rfl rfl) fun X w vs aK bD hgl=>?_
 obtain⟨u,rfl⟩:∃ u,vs = #[u]:=by
  match vs,aK with
  | ⟨[u]⟩,_=>exact⟨u,rfl⟩
 have hu:=(bD 0 u _ rfl rfl).scalar;subst hu;refine (Any.strconv_Itoa Tryz.T0 n h0 h1 w (KQ hP hgl)).mono fun e w' ⟨he,k,os,hw⟩=>⟨_,he,by rw[hw];exact bZ.trans' (yX w k) (HQ _ _),.v _⟩
theorem P3 (G:aq) (hP:ae1 G) (n:Int) (h0:-9223372036854775808<=n) (h1:n<=9223372036854775807):ar prog G 162 [.v (.int .i64 n),.v (.int .i64 10)] (dS (Lib.itoa n)):=by
 refine ar.nV (fe.of func162 rfl rfl) fun X w vs aK bD hgl=>?_
 obtain⟨u,v,rfl⟩:∃ u v,vs = #[u,v]:=by
  match vs,aK with
  | ⟨[u,v]⟩,_=>exact⟨u,v,rfl⟩
 have hu:=(bD 0 u _ rfl rfl).scalar;have hv:=(bD 1 v _ rfl rfl).scalar;subst hu hv;refine (Any.strconv_FormatInt_10 Tryz.T3 n h0 h1 w (KQ hP hgl)).mono fun e w' ⟨he,k,os,hw⟩=>⟨_,he,by rw[hw];exact bZ.trans' (yX w k) (HQ _ _),.v _⟩
def pd (f s:Tx) (ev:Value):D:=.bt 339 (.ip [dS f,dS s,.v ev])
def afB (f s:Tx) (es er:Value):D:=match Lib.atoiAll s with
 | .ok v=>.aW [.v (.int .i64 v),.v .nilIface]
 | .range=>.aW [.v (.int .i64 (Lib.atoiSat s)),pd f s er]
 | _=>.aW [.v (.int .i64 0),pd f s es]
theorem agO {w:World} {X:Nat->Prop} (v:Int):RD w X (.tuple #[.int .i64 v,.nilIface]) (.aW [.v (.int .i64 v),.v .nilIface]):=.aW rfl fun j u c hu hc=>by
 match j,hu,hc with
 | 0,hu,hc=>simp at hu hc;subst hu hc;exact .v _
 | 1,hu,hc=>simp at hu hc;subst hu hc;exact .v _
 | j+2,hu,hc=>simp at hu
theorem agN {w w':World} {X:Nat->Prop} (iD:∀ b,X b->b < w.heap.size) {v:Int} {f s:Tx} {ev:Value} {N:Nat} {T:TypeId} (hN:w.heap.size<=N) (hc:w'.heap[N]? = some (.cells #[.string (bs f),.string (bs s),ev] T (0,0))) :
  RD w' X (.tuple #[.int .i64 v,.iface 339 (.pointer (some ⟨N,0,none⟩))]) (.aW [.v (.int .i64 v),pd f s ev]):=by
 have cI:∀ j,w'.cell? ⟨N,j,none⟩=(#[.string (bs f),.string (bs s),ev]:Array Value)[j]?:=fun j=>by simp[World.cell?,hc]
 refine .aW rfl fun j u c hu hx=>?_
 match j,hu,hx with
 | 0,hu,hx=>simp at hu hx;subst hu hx;exact .v _
 | 1,hu,hx=>
  simp at hu hx;subst hu hx;refine .bt (.ip (f:=fun j=>(w'.cell? ⟨N,j,none⟩).getD undef) (fun hx=>by have:=iD _ hx;omega) (IS.1 hc).1 (fun j hj=>?_) fun j c fV=>?_)
  .have hj3:j < 3:=by simpa using hj
   rw[acR,cI]
   match j,hj3 with
   | 0,_=>rfl
   | 1,_=>rfl
   | 2,_=>rfl
  .rw[cI]
   match j,fV with
   | 0,fV=>simp at fV;subst fV;exact .v _
   | 1,fV=>simp at fV;subst fV;exact .v _
   | 2,fV=>simp at fV;subst fV;exact .v _
   | j+3,fV=>simp at fV
 | j+2,hu,hx=>simp at hu
theorem G3 (w:World) (e:TypeId) (s:ByteArray):bZ w (Lib.bytesWorld w e s):=rL (Lib.bytesWorld_below w e s)
def N3:Tx:=[65,116,111,105]
def VD:Tx:=[80,97,114,115,101,73,110,116]
theorem GV (G:aq) {es er:Value} (hE:o0 G es er) (s:Tx) (hs:s.length < 2^40):ar prog G 176 [dS s] (afB N3 s es er):=by
 obtain⟨⟨h1,CI⟩,h2,CK⟩:=hE;refine AM (fe.of func176 rfl rfl) fun X w vs iD aK bD hgl=>?_
 obtain⟨u,rfl⟩:∃ u,vs = #[u]:=by
  match vs,aK with
  | ⟨[u]⟩,_=>exact⟨u,rfl⟩
 have hu:=(bD 0 u _ rfl rfl).scalar;subst hu
 have D2:(bs s).size < 2^40:=by rw[bl];exact hs
 unfold afB
 cases hn:Lib.atoiAll s with
 | ok v=>
  refine (Any.strconv_Atoi_ok Tryz.EA (bs s) (by omega) v hn w).mono fun e w' ⟨he,hw⟩=>⟨_,he,?_,agO v⟩
  rcases hw with rfl | ⟨t,rfl⟩
  .exact bZ.refl _
  .exact G3 _ _ _
 | range=>
  refine (Any.strconv_Atoi_range Tryz.EA (bs s) (by omega) hn er w (zd h2 hgl) CK).mono fun e w' ⟨N,he,hN,hc,hB⟩=>⟨_,he,rL hB,agN iD hN hc⟩
 | _=>
  refine (Any.strconv_Atoi_syntax Tryz.EA (bs s) (by omega) hn es w (zd h1 hgl) CI).mono fun e w' ⟨N,he,hN,hc,hB⟩=>⟨_,he,rL hB,agN iD hN hc⟩
theorem VE (G:aq) {es er:Value} (hE:o0 G es er) (s:Tx) (hs:s.length < 2^40):ar prog G 161 [dS s,.v (.int .i64 10),.v (.int .i64 64)] (afB VD s es er):=by
 obtain⟨⟨h1,CI⟩,h2,CK⟩:=hE;refine AM (fe.of func161 rfl rfl) fun X w vs iD aK bD hgl=>?_
 obtain⟨u,v1,v2,rfl⟩:∃ u v1 v2,vs = #[u,v1,v2]:=by
  match vs,aK with
  | ⟨[u,v1,v2]⟩,_=>exact⟨u,v1,v2,rfl⟩
 have hu:=(bD 0 u _ rfl rfl).scalar;have gC:=(bD 1 v1 _ rfl rfl).scalar;have uK:=(bD 2 v2 _ rfl rfl).scalar;subst hu gC uK
 have D2:(bs s).size < 2^40:=by rw[bl];exact hs
 have Ct:Lib.parseIntB 64 (bs s).data.toList=Lib.atoiAll s:=by rw[cj];exact Lib.parseIntB_64 s
 unfold afB
 cases hn:Lib.atoiAll s with
 | ok v=>
  refine (Any.strconv_ParseInt_10_at64_ok Tryz.EB (bs s) (by omega) v (Ct.trans hn) w).mono fun e w' ⟨he,hw⟩=>⟨_,he,?_,agO v⟩
  rcases hw with rfl | ⟨t,rfl⟩
  .exact bZ.refl _
  .exact G3 _ _ _
 | range=>
  refine (Any.strconv_ParseInt_10_at64_range Tryz.EB (bs s) (by omega) (Ct.trans hn) er w (zd h2 hgl) CK).mono fun e w' ⟨N,he,hN,hc,hB⟩=>⟨_,by rw[cj,Lib.intSat_64]at he;exact he,rL hB,agN iD hN hc⟩
 | _=>
  refine (Any.strconv_ParseInt_10_at64_syntax Tryz.EB (bs s) (by omega) (Ct.trans hn) es w (zd h1 hgl) CI).mono fun e w' ⟨N,he,hN,hc,hB⟩=>⟨_,he,rL hB,agN iD hN hc⟩
end Go.Proofs.YtdigkhaofjmgkaaGreatDoor
namespace Go.Proofs.YtdigkhaofjmgkaaGreatDoor
open Go.Av
def ach:nh->D
 | .form=>.aW [.v (.pointer none),.v (.pointer none),.bt 40 (.v (.int .i64 3))]
 | .bad c off=>.aW [.v (.pointer none),.v (.pointer none),.bt 213 (.ip [.v (.int .i64 c),.v (.int .i64 off)])]
 | .name n=>.aW [.ip (cNm n),.v (.pointer none),.v .nilIface]
 | .lK r=>.aW [.v (.pointer none),.ip (cf r),.v .nilIface]
theorem Tc (l:List Tx) (s:Tx):idx (fun x=>s == x) l=ixW l s:=by
 unfold ixW;congr 1;funext x;by_cases h:s=x
 .subst h;simp
 .have h2:x≠s:=fun e=>h e.symm;rw[beq_eq_false_iff_ne.2 h,beq_eq_false_iff_ne.2 h2]
theorem Ac (l:List Tx) (s:Tx):-1<=ixW l s/\ixW l s < l.length:=by
 by_cases h:ixW l s < 0
 .unfold ixW idx at h ⊢
  cases hf:l.findIdx? (fun x=>x == s) with
  | none=>simp;omega
  | some k=>rw[hf]at h;simp at h;omega
 .obtain⟨k,hk,he,_⟩:=pY h;have he2:ixW l s=(k:Int):=he;omega
theorem O6 (c:Option Ex):dOE c=dC c:=by cases c<;>rfl
theorem oF:(⟨#[61]⟩:ByteArray)=bs [61]:=rfl
theorem rB:IntKind.i64.wrap 0=0:=by decide
theorem lP:IntKind.i64.wrap 1=1:=by decide
theorem Uo (G:aq) (hM:adP G) (hP:ae1 G) (hG:mo G) {es er:Value} (hE:o0 G es er) (s:Tx) (hs:s.length<=20000) (h0:fz s≠[]):ar prog G 122 [dS s] (ach (e7 s)):=by
 have kb:=YH G hM s 61 (by omega);have zE:=fun (ws:List Tx) (x:Tx) (h:ws.length < 2^60)=>index_spec G none ws x h;simp only[Tc]at zE;by_cases qA:(61:UInt8)∈s
 .have hle:=yU 61 s
  have iX:e7 s=mh (cutAt 61 s).1 (cutAt 61 s).2 (fz (cutAt 61 s).1):=by unfold e7;rw[if_pos qA]
  rw[iX];simp only[qA,if_true,decide_true]at kb;generalize (cutAt 61 s).1=hd at kb hle ⊢;generalize (cutAt 61 s).2=rest at kb hle ⊢;have hfl:=HG G hd (by omega);have jT:=agP hd;generalize lA:fz hd=ws at hfl jT ⊢;have dB:=VH G rest (by omega);rw[O6]at dB;have iI:=ZB G hG (fF rest).2;have hR:∀ k nm,jE k nm hd rest=(match (fF rest).2 with | some (c,o)=>.bad c (hd.length+1+o.getD 0) | none=>.lK ⟨k,nm,(fF rest).1⟩):=fun _ _=>rfl;simp only[dS]at kb hfl dB ⊢
  match ws,hfl,jT with
  | [],hfl,jT=>
   show ar _ _ _ _ (ach .form);simp only[ach];refine ar.abS (al _) func122 rfl rfl (rs:=[.tmp 2,.tmp 3,.tmp 4]) results122 (by simp[ntmps122]) fun X=>?_;simp only[ntmps122,List.map];refine ah [0] [] ?_;have qf:=@oF;refine dr kb [5,6,7] [] ?_;refine aT trivial hfl [5,6,7,8] [] ?_;refine af fun K1 ax=>?_;refine ah [5,6,8,26] [] ?_;refine abP rfl ?_;refine ah [5,6,8,9] [28] ?_;refine af fun K2 aa=>?_;refine ah [5,6,8,9,31] [28] ?_;refine abN rfl ?_;refine abO ?_;refine aa _ (AW.norm [5,6,8,9] [28] (fun _ _=>trivial) (AW.st (by simp;rfl) ?_));refine af fun K3 aQ=>?_;refine ah [5,6,8,9,54] [28] ?_;refine abP rfl ?_;refine ah [2,3,4] [28] ?_;exact cZ
  | [a],hfl,jT=>
   show ar _ _ _ _ (ach (jE 1 a hd rest));rw[hR];have hsome:=fun h=>xY (t:=rest) h;have hat:=fun c o h=>xX (t:=rest) (c:=c) (p:=o) h;generalize (fF rest).1=oe at dB hsome ⊢;generalize (fF rest).2=oc at dB iI hsome hat ⊢
   match oc,dB,iI,hsome,hat with
   | some (c,some o),dB,iI,_,hat=>
    have DS:=hat c o rfl
    have hcast:((hd.length+1+o:Nat):Int)=(hd.length:Int)+1+o:=by omega
    simp only[bd]at dB;simp only[ach,adW];refine ar.abS (al _) func122 rfl rfl (rs:=[.tmp 2,.tmp 3,.tmp 4]) results122 (by simp[ntmps122]) fun X=>?_;simp only[ntmps122,List.map];refine ah [0] [] ?_;have qf:=@oF;refine dr kb [5,6,7] [] ?_;refine aT trivial hfl [5,6,7,8] [] ?_;refine af fun K1 ax=>?_;refine ah [5,6,8,26] [] ?_;refine abP rfl ?_;refine ah [5,6,8,9] [28] ?_;refine af fun K2 aa=>?_;refine ah [5,6,8,9,31] [28] ?_;refine abN rfl ?_;refine abO ?_;refine aa _ (AW.norm [5,6,8,9] [28] (fun _ _=>trivial) (AW.st (by simp;rfl) ?_));refine af fun K3 aQ=>?_;refine ah [5,6,8,9,54] [28] ?_;refine abN rfl ?_;refine abO (aQ _ ?_);refine ah [5,6,9] [28] ?_;refine aT trivial dB [5,9,10,11] [28] ?_;refine af fun K4 bK=>?_;refine rgq (Aq @afM (Aq @afT @afW)) [5,9,10,11,12,13] [28] ?_;refine ah [5,9,10,11,12,75] [28] ?_;refine abP rfl ?_;have qf:=@bl;refine fQ [2,3,4] [28,89] ?_;refine dX 89 ?_;exact aN @hcast
   | some (c,none),dB,iI,_,_=>
    have hcast:((hd.length+1:Nat):Int)=(hd.length:Int)+1:=by omega
    simp only[bd,codeF]at dB iI;simp only[ach,Option.getD_none,adF];refine ar.abS (al _) func122 rfl rfl (rs:=[.tmp 2,.tmp 3,.tmp 4]) results122 (by simp[ntmps122]) fun X=>?_;simp only[ntmps122,List.map];refine ah [0] [] ?_;have qf:=@oF;refine dr kb [5,6,7] [] ?_;refine aT trivial hfl [5,6,7,8] [] ?_;refine af fun K1 ax=>?_;refine ah [5,6,8,26] [] ?_;refine abP rfl ?_;refine ah [5,6,8,9] [28] ?_;refine af fun K2 aa=>?_;refine ah [5,6,8,9,31] [28] ?_;refine abN rfl ?_;refine abO ?_;refine aa _ (AW.norm [5,6,8,9] [28] (fun _ _=>trivial) (AW.st (by simp;rfl) ?_));refine af fun K3 aQ=>?_;refine ah [5,6,8,9,54] [28] ?_;refine abN rfl ?_;refine abO (aQ _ ?_);refine ah [5,6,9] [28] ?_;refine aT trivial dB [5,9,10,11] [28] ?_;refine af fun K4 bK=>?_;refine rgq (Aq @afM (Aq @afT @afW)) [5,9,10,11,12,13] [28] ?_;refine ah [5,9,10,11,12,75] [28] ?_;refine abN rfl ?_;refine abO (bK _ ?_);refine af fun K5 bB=>?_;refine ah [5,9,10,11,92] [28] ?_;refine abP rfl ?_;have qf:=@bl;refine dr iI [2,3,4] [28,99] ?_;refine dX 99 ?_;exact aN @hcast
   | none,dB,iI,hsome,_=>
    obtain⟨e,rfl⟩:=hsome rfl;obtain⟨ta,ca,mQ⟩:=adE e;simp only[dC,mQ,bd]at dB;simp only[ach,cf,dC,mQ,dS];refine ar.abS (al _) func122 rfl rfl (rs:=[.tmp 2,.tmp 3,.tmp 4]) results122 (by simp[ntmps122]) fun X=>?_;simp only[ntmps122,List.map];refine ah [0] [] ?_;have qf:=@oF;refine dr kb [5,6,7] [] ?_;refine aT trivial hfl [5,6,7,8] [] ?_;refine af fun K1 ax=>?_;refine ah [5,6,8,26] [] ?_;refine abP rfl ?_;refine ah [5,6,8,9] [28] ?_;refine af fun K2 aa=>?_;refine ah [5,6,8,9,31] [28] ?_;refine abN rfl ?_;refine abO ?_;refine aa _ (AW.norm [5,6,8,9] [28] (fun _ _=>trivial) (AW.st (by simp;rfl) ?_));refine af fun K3 aQ=>?_;refine ah [5,6,8,9,54] [28] ?_;refine abN rfl ?_;refine abO (aQ _ ?_);refine ah [5,6,9] [28] ?_;refine aT trivial dB [5,9,10,11] [28] ?_;refine af fun K4 bK=>?_;refine rgq (Aq @afM (Aq @afT @afW)) [5,9,10,11,12,13] [28] ?_;refine ah [5,9,10,11,12,75] [28] ?_;refine abN rfl ?_;refine abO (bK _ ?_);refine af fun K5 bB=>?_;refine ah [5,9,10,11,92] [28] ?_;refine abN rfl ?_;refine abO (bB _ ?_);refine ah [9] [28] ?_;refine ah [2,3,4] [28] ?_;refine dX 28 ?_;exact cZ
  | [a,b],hfl,jT=>
   have hix:=zE kS a (by decide);simp only[dS]at hix;show ar _ _ _ _ (ach (if ixW kS a < 2 then .form else jE (ixW kS a) b hd rest));have hbd:=Ac kS a;generalize ixW kS a=k at hix hbd ⊢;have IB:k < 7:=hbd.2;by_cases hk:k < 2
   .rw[if_pos hk];simp only[ach];refine ar.abS (al _) func122 rfl rfl (rs:=[.tmp 2,.tmp 3,.tmp 4]) results122 (by simp[ntmps122]) fun X=>?_;simp only[ntmps122,List.map];refine ah [0] [] ?_;have qf:=@oF;refine dr kb [5,6,7] [] ?_;refine aT trivial hfl [5,6,7,8] [] ?_;refine af fun K1 ax=>?_;refine ah [5,6,8,26] [] ?_;refine abP rfl ?_;refine ah [5,6,8,9] [28] ?_;refine af fun K2 aa=>?_;refine ah [5,6,8,9,31] [28] ?_;refine abP rfl ?_;refine cR (al _) fun K' ae=>?_;(repeat (refine sxn fun K2 aa=>?_;simp;(repeat (refine⟨by omega,?_⟩));refine aa _ ?_;clear aa K2));refine sxn fun K2 aa=>?_;simp;refine ab8.aee (hix) (by simp;rfl) (by first | exact D.abY _ | simp[aC,abU,abK,D.le,D.le.go,D.le_refl,D.abY]) (by simp[D.scalar]) ?_;refine aa _ ?_;clear aa K2;simp only[aD,cz];(repeat (refine sxn fun K2 aa=>?_;simp;(repeat (refine⟨by omega,?_⟩));refine aa _ ?_;clear aa K2));refine sxz (ae _ ?_);clear ae K';refine aa _ (AW.norm [5,6,8,9] [28,33] (fun _ _=>trivial) (AW.st (by simp;rfl) ?_));refine af fun K3 aQ=>?_;have qf:=@hk;refine abQ [5,6,8,9,54] [28,33] ?_;refine abP rfl ?_;refine ah [2,3,4] [28,33] ?_;exact cZ
   rw[if_neg hk];rw[hR];have hsome:=fun h=>xY (t:=rest) h;have hat:=fun c o h=>xX (t:=rest) (c:=c) (p:=o) h;generalize (fF rest).1=oe at dB hsome ⊢;generalize (fF rest).2=oc at dB iI hsome hat ⊢
   match oc,dB,iI,hsome,hat with
   | some (c,some o),dB,iI,_,hat=>
    have DS:=hat c o rfl
    have hcast:((hd.length+1+o:Nat):Int)=(hd.length:Int)+1+o:=by omega
    simp only[bd]at dB;simp only[ach,adW];refine ar.abS (al _) func122 rfl rfl (rs:=[.tmp 2,.tmp 3,.tmp 4]) results122 (by simp[ntmps122]) fun X=>?_;simp only[ntmps122,List.map];refine ah [0] [] ?_;have qf:=@oF;refine dr kb [5,6,7] [] ?_;refine aT trivial hfl [5,6,7,8] [] ?_;refine af fun K1 ax=>?_;refine ah [5,6,8,26] [] ?_;refine abP rfl ?_;refine ah [5,6,8,9] [28] ?_;refine af fun K2 aa=>?_;refine ah [5,6,8,9,31] [28] ?_;refine abP rfl ?_;refine cR (al _) fun K' ae=>?_;(repeat (refine sxn fun K2 aa=>?_;simp;(repeat (refine⟨by omega,?_⟩));refine aa _ ?_;clear aa K2));refine sxn fun K2 aa=>?_;simp;refine ab8.aee (hix) (by simp;rfl) (by first | exact D.abY _ | simp[aC,abU,abK,D.le,D.le.go,D.le_refl,D.abY]) (by simp[D.scalar]) ?_;refine aa _ ?_;clear aa K2;simp only[aD,cz];(repeat (refine sxn fun K2 aa=>?_;simp;(repeat (refine⟨by omega,?_⟩));refine aa _ ?_;clear aa K2));refine sxz (ae _ ?_);clear ae K';refine aa _ (AW.norm [5,6,8,9] [28,33] (fun _ _=>trivial) (AW.st (by simp;rfl) ?_));refine af fun K3 aQ=>?_;have qf:=@hk;refine abQ [5,6,8,9,54] [28,33] ?_;refine abN rfl ?_;refine abO (aQ _ ?_);refine ah [5,6,9] [28,33] ?_;refine aT trivial dB [5,9,10,11] [28,33] ?_;refine af fun K4 bK=>?_;refine rgq (Aq @afM (Aq @afT @afW)) [5,9,10,11,12,13] [28,33] ?_;refine ah [5,9,10,11,12,75] [28,33] ?_;refine abP rfl ?_;have qf:=@bl;refine fQ [2,3,4] [28,33,89] ?_;refine dX 89 ?_;exact aN @hcast
   | some (c,none),dB,iI,_,_=>
    have hcast:((hd.length+1:Nat):Int)=(hd.length:Int)+1:=by omega
    simp only[bd,codeF]at dB iI;simp only[ach,Option.getD_none,adF];refine ar.abS (al _) func122 rfl rfl (rs:=[.tmp 2,.tmp 3,.tmp 4]) results122 (by simp[ntmps122]) fun X=>?_;simp only[ntmps122,List.map];refine ah [0] [] ?_;have qf:=@oF;refine dr kb [5,6,7] [] ?_;refine aT trivial hfl [5,6,7,8] [] ?_;refine af fun K1 ax=>?_;refine ah [5,6,8,26] [] ?_;refine abP rfl ?_;refine ah [5,6,8,9] [28] ?_;refine af fun K2 aa=>?_;refine ah [5,6,8,9,31] [28] ?_;refine abP rfl ?_;refine cR (al _) fun K' ae=>?_;(repeat (refine sxn fun K2 aa=>?_;simp;(repeat (refine⟨by omega,?_⟩));refine aa _ ?_;clear aa K2));refine sxn fun K2 aa=>?_;simp;refine ab8.aee (hix) (by simp;rfl) (by first | exact D.abY _ | simp[aC,abU,abK,D.le,D.le.go,D.le_refl,D.abY]) (by simp[D.scalar]) ?_;refine aa _ ?_;clear aa K2;simp only[aD,cz];(repeat (refine sxn fun K2 aa=>?_;simp;(repeat (refine⟨by omega,?_⟩));refine aa _ ?_;clear aa K2));refine sxz (ae _ ?_);clear ae K';refine aa _ (AW.norm [5,6,8,9] [28,33] (fun _ _=>trivial) (AW.st (by simp;rfl) ?_));refine af fun K3 aQ=>?_;have qf:=@hk;refine abQ [5,6,8,9,54] [28,33] ?_;refine abN rfl ?_;refine abO (aQ _ ?_);refine ah [5,6,9] [28,33] ?_;refine aT trivial dB [5,9,10,11] [28,33] ?_;refine af fun K4 bK=>?_;refine rgq (Aq @afM (Aq @afT @afW)) [5,9,10,11,12,13] [28,33] ?_;refine ah [5,9,10,11,12,75] [28,33] ?_;refine abN rfl ?_;refine abO (bK _ ?_);refine af fun K5 bB=>?_;refine ah [5,9,10,11,92] [28,33] ?_;refine abP rfl ?_;have qf:=@bl;refine dr iI [2,3,4] [28,33,99] ?_;refine dX 99 ?_;exact aN @hcast
   | none,dB,iI,hsome,_=>
    obtain⟨e,rfl⟩:=hsome rfl;obtain⟨ta,ca,mQ⟩:=adE e;simp only[dC,mQ,bd]at dB;simp only[ach,cf,dC,mQ,dS];refine ar.abS (al _) func122 rfl rfl (rs:=[.tmp 2,.tmp 3,.tmp 4]) results122 (by simp[ntmps122]) fun X=>?_;simp only[ntmps122,List.map];refine ah [0] [] ?_;have qf:=@oF;refine dr kb [5,6,7] [] ?_;refine aT trivial hfl [5,6,7,8] [] ?_;refine af fun K1 ax=>?_;refine ah [5,6,8,26] [] ?_;refine abP rfl ?_;refine ah [5,6,8,9] [28] ?_;refine af fun K2 aa=>?_;refine ah [5,6,8,9,31] [28] ?_;refine abP rfl ?_;refine cR (al _) fun K' ae=>?_;(repeat (refine sxn fun K2 aa=>?_;simp;(repeat (refine⟨by omega,?_⟩));refine aa _ ?_;clear aa K2));refine sxn fun K2 aa=>?_;simp;refine ab8.aee (hix) (by simp;rfl) (by first | exact D.abY _ | simp[aC,abU,abK,D.le,D.le.go,D.le_refl,D.abY]) (by simp[D.scalar]) ?_;refine aa _ ?_;clear aa K2;simp only[aD,cz];(repeat (refine sxn fun K2 aa=>?_;simp;(repeat (refine⟨by omega,?_⟩));refine aa _ ?_;clear aa K2));refine sxz (ae _ ?_);clear ae K';refine aa _ (AW.norm [5,6,8,9] [28,33] (fun _ _=>trivial) (AW.st (by simp;rfl) ?_));refine af fun K3 aQ=>?_;have qf:=@hk;refine abQ [5,6,8,9,54] [28,33] ?_;refine abN rfl ?_;refine abO (aQ _ ?_);refine ah [5,6,9] [28,33] ?_;refine aT trivial dB [5,9,10,11] [28,33] ?_;refine af fun K4 bK=>?_;refine rgq (Aq @afM (Aq @afT @afW)) [5,9,10,11,12,13] [28,33] ?_;refine ah [5,9,10,11,12,75] [28,33] ?_;refine abN rfl ?_;refine abO (bK _ ?_);refine af fun K5 bB=>?_;refine ah [5,9,10,11,92] [28,33] ?_;refine abN rfl ?_;refine abO (bB _ ?_);refine ah [9] [28,33] ?_;refine ah [2,3,4] [28,33] ?_;refine dX 28 ?_;exact cZ
  | a :: b :: c :: l,hfl,jT=>
   have n1:¬ ((a :: b :: c :: l).length:Int)=2:=by simp only[acv];omega
   have n2:¬ ((a :: b :: c :: l).length:Int)=1:=by simp only[acv];omega
   show ar _ _ _ _ (ach .form);simp only[ach];generalize a :: b :: c :: l=ws at hfl jT n1 n2;refine ar.abS (al _) func122 rfl rfl (rs:=[.tmp 2,.tmp 3,.tmp 4]) results122 (by simp[ntmps122]) fun X=>?_;simp only[ntmps122,List.map];refine ah [0] [] ?_;have qf:=@oF;refine dr kb [5,6,7] [] ?_;refine aT trivial hfl [5,6,7,8] [] ?_;refine af fun K1 ax=>?_;refine ah [5,6,8,26] [] ?_;refine abP rfl ?_;refine ah [5,6,8,9] [28] ?_;refine af fun K2 aa=>?_;have qf:=(Aq @n1 @n2);refine abQ [5,6,8,9,31] [28] ?_;refine abN rfl ?_;refine abO ?_;refine aa _ (AW.norm [5,6,8,9] [28] (fun _ _=>trivial) (AW.st (by simp;rfl) ?_));refine af fun K3 aQ=>?_;have qf:=(Aq @n1 @n2);refine abQ [5,6,8,9,54] [28] ?_;refine abP rfl ?_;refine ah [2,3,4] [28] ?_;exact cZ
 .have iX:e7 s=ad4 (fz s):=by unfold e7;rw[if_neg qA]
  rw[iX];simp only[qA,if_false,decide_false]at kb;have hfl:=HG G s (by omega);have jT:=agP s;have uM:=fun x=>BC (t:=s) (w:=x);generalize lA:fz s=ws at hfl jT uM h0 ⊢;obtain⟨a,l,rfl⟩:∃ a l,ws=a :: l:=List.exists_cons_of_ne_nil h0;show ar _ _ _ _ (ach (eT (ixW kwN a) l));have hix:=zE kwN a (by decide);have hbd:=Ac kwN a;have IB:ixW kwN a < 5:=hbd.2;generalize ixW kwN a=k at hix IB ⊢
  have sr:((a :: l).length:Int)=(l.length:Int)+1:=by simp
  simp only[dS]at kb hfl hix ⊢;refine ar.abS (al _) func122 rfl rfl (rs:=[.tmp 2,.tmp 3,.tmp 4]) results122 (by simp[ntmps122]) fun X=>?_;simp only[ntmps122,List.map];refine ah [0] [] ?_;have qf:=@oF;refine dr kb [5,6,7] [] ?_;refine aT trivial hfl [5,6,7,8] [] ?_;refine af fun K1 ax=>?_;refine ah [5,6,8,26] [] ?_;refine abN rfl ?_;refine abO (ax _ ?_);refine rg [8,14] [106] (fun _ _=>trivial) fun K' ae=>?_;(repeat (refine sxn fun K2 aa=>?_;simp;(repeat (refine⟨by omega,?_⟩));refine aa _ ?_;clear aa K2));refine sxn fun K2 aa=>?_;simp;refine ab8.aee (hix) (by simp;rfl) (by first | exact D.abY _ | simp[aC,abU,abK,D.le,D.le.go,D.le_refl,D.abY]) (by simp[D.scalar]) ?_;refine aa _ ?_;clear aa K2;simp only[aD,cz];(repeat (refine sxn fun K2 aa=>?_;simp;(repeat (refine⟨by omega,?_⟩));refine aa _ ?_;clear aa K2));refine sxz (ae _ (AW.st (by simp;rfl) ?_));clear ae K';refine af fun K6 cq=>?_;by_cases hk:k < 1
  .have hF:eT k l = .form:=by
    match l with
    | []=>rfl
    | [b]=>rw[eT,if_neg (by omega)]
    | [b,c]=>rw[eT,if_neg (by omega)]
    | b :: c :: d :: l=>rfl
   rw[hF];simp only[ach];have qf:=@hk;refine abQ [8,14,120] [106] ?_;refine abP rfl ?_;refine ah [2,3,4] [106] ?_;exact cZ
  have zH:k=1\/k=2\/k=3\/k=4:=by omega
  rcases zH with rfl | rfl | rfl | rfl
  .by_cases hl:l.length=1
   .obtain⟨b,rfl⟩:∃ b,l=[b]:=acX.1 hl;have hF:eT 1 [b] = .name ⟨b,1,0⟩:=rfl;have qf:=(Aq @rB @lP);refine abQ [8,14,120] [106] ?_;refine abN rfl ?_;refine abO (cq _ ?_);refine ah [8,14,15] [106,127] ?_;refine af fun K7 de=>?_;refine ah [8,15,129] [106,127] ?_;refine abN rfl ?_;refine abO ?_;refine de _ (AW.norm [15] [106,127] (fun _ _=>trivial) (AW.st (by simp;rfl) ?_));refine ah [2,3,4] [106,127] ?_;refine dX 127 ?_;exact aN (Aq @hF (Aq @ach.eq_1 (Aq @ach.eq_2 (Aq @ach.eq_3 (Aq @ach.eq_4 (Aq @cNm.eq_1 @afi))))))
   .have hF:eT 1 l = .form:=by
     match l,hl with
     | [],_=>rfl
     | [b],hl=>simp at hl
     | [b,c],_=>rw[eT,if_neg (by omega)]
     | b :: c :: d :: l,_=>rfl
    rw[hF];simp only[ach]
    have hn:¬ (l.length:Int)=1:=by omega
    have kh:¬ (l.length:Int)+1=2:=by omega
    have qf:=(Aq @hn (Aq @kh (Aq @sr (Aq @rB @lP))));refine abQ [8,14,120] [106] ?_;refine abP rfl ?_;refine ah [2,3,4] [106] ?_;exact cZ
  .by_cases hl:l.length=1
   .obtain⟨b,rfl⟩:∃ b,l=[b]:=acX.1 hl;have hF:eT 2 [b] = .name ⟨b,2,0⟩:=rfl;have qf:=(Aq @rB @lP);refine abQ [8,14,120] [106] ?_;refine abN rfl ?_;refine abO (cq _ ?_);refine ah [8,14,15] [106,127] ?_;refine af fun K7 de=>?_;refine ah [8,15,129] [106,127] ?_;refine abN rfl ?_;refine abO ?_;refine de _ (AW.norm [15] [106,127] (fun _ _=>trivial) (AW.st (by simp;rfl) ?_));refine ah [2,3,4] [106,127] ?_;refine dX 127 ?_;exact aN (Aq @hF (Aq @ach.eq_1 (Aq @ach.eq_2 (Aq @ach.eq_3 (Aq @ach.eq_4 (Aq @cNm.eq_1 @afi))))))
   .have hF:eT 2 l = .form:=by
     match l,hl with
     | [],_=>rfl
     | [b],hl=>simp at hl
     | [b,c],_=>rw[eT,if_neg (by omega)]
     | b :: c :: d :: l,_=>rfl
    rw[hF];simp only[ach]
    have hn:¬ (l.length:Int)=1:=by omega
    have kh:¬ (l.length:Int)+1=2:=by omega
    have qf:=(Aq @hn (Aq @kh (Aq @sr (Aq @rB @lP))));refine abQ [8,14,120] [106] ?_;refine abP rfl ?_;refine ah [2,3,4] [106] ?_;exact cZ
  .by_cases hl:l.length=2
   .obtain⟨b,c,rfl⟩:∃ b c,l=[b,c]:=by
     match l,hl with
     | [b,c],_=>exact⟨b,c,rfl⟩
    have hcl:c.length < 2^40:=by have:=(uM c (by simp)).2;omega
    have hat:=GV G hE c hcl;have ab3:eT 3 [b,c]=(match ri c with | some v=>.name ⟨b,3,v⟩ | none=>.form):=rfl;unfold ri at ab3
    unfold afB at hat
    simp only[dS]at hat
    have qf:=(Aq @rB @lP);refine abQ [8,14,120] [106] ?_;refine abN rfl ?_;refine abO (cq _ ?_);refine ah [8,14,15] [106,127] ?_;refine af fun K7 de=>?_;refine ah [8,15,129] [106,127] ?_;refine abP rfl ?_
    cases hn:Lib.atoiAll c with
    | ok v=>
     rw[hn]at hat ab3;dsimp only at hat ab3;obtain⟨v0,v1⟩:=Lib.atoiAll_bounds hn;have hit:=JU G hP v v0 v1;simp only[dS]at hit;generalize Lib.itoa v=iv at hit ab3;refine aT trivial hat [8,15,16,17] [106,127] ?_;refine af fun K8 dz=>?_;by_cases hc:iv=c
     .rw[if_pos hc]at ab3;subst hc;refine oW (al _) (by kernel_rfl) [15,16,146] [106,127] (fun _ _=>trivial) (by kernel_rfl) fun K' ae=>?_;(repeat (refine eC fun K2 aa=>?_;simp[aO,aY];(repeat (refine⟨by omega,?_⟩));refine aa _ ?_;clear aa K2));refine eC fun K2 aa=>?_;simp[aO,aY];refine jm.data (hit) (by simp;rfl) (by simp;rfl) (by first | exact D.abY _ | simp[aC,abU,abK,D.le,D.le.go,D.le_refl,D.abY,aO,aY]) ?_;refine aa _ ?_;clear aa K2;simp only[aD,cz];(repeat (refine eC fun K2 aa=>?_;simp[aO,aY];(repeat (refine⟨by omega,?_⟩));refine aa _ ?_;clear aa K2));refine iL (ae _ ?_);refine AW.st (by simp[aO,aY];rfl) ?_;clear ae K';refine abN rfl ?_;refine abO (dz _ ?_);refine reK trivial de [15] [106,127] ?_;refine ah [2,3,4] [106,127] ?_;refine dX 127 ?_;exact aN (Aq @ab3 (Aq @ach.eq_1 (Aq @ach.eq_2 (Aq @ach.eq_3 (Aq @ach.eq_4 (Aq @cNm.eq_1 @afi))))))
     .rw[if_neg hc]at ab3;refine oW (al _) (by kernel_rfl) [15,16,146] [106,127] (fun _ _=>trivial) (by kernel_rfl) fun K' ae=>?_;(repeat (refine eC fun K2 aa=>?_;simp[aO,aY,hc];(repeat (refine⟨by omega,?_⟩));refine aa _ ?_;clear aa K2));refine eC fun K2 aa=>?_;simp[aO,aY,hc];refine jm.data (hit) (by simp;rfl) (by simp;rfl) (by first | exact D.abY _ | simp[aC,abU,abK,D.le,D.le.go,D.le_refl,D.abY,aO,aY,hc]) ?_;refine aa _ ?_;clear aa K2;simp only[aD,cz];(repeat (refine eC fun K2 aa=>?_;simp[aO,aY,hc];(repeat (refine⟨by omega,?_⟩));refine aa _ ?_;clear aa K2));refine iL (ae _ ?_);refine AW.st (by simp[aO,aY,hc];rfl) ?_;clear ae K';refine abP (by simp[hc]) ?_;refine ah [2,3,4] [106,127] ?_;exact aN (Aq @ab3 (Aq @ach.eq_1 (Aq @ach.eq_2 (Aq @ach.eq_3 @ach.eq_4))))
    | range=>
     rw[hn]at hat ab3;dsimp only[pd]at hat ab3;refine aT trivial hat [8,15,16,17] [106,127] ?_;refine af fun K8 dz=>?_;refine A3 trivial [15,16,146] [106,127] ?_;refine abP rfl ?_;refine ah [2,3,4] [106,127] ?_;exact aN (Aq @ab3 (Aq @ach.eq_1 (Aq @ach.eq_2 (Aq @ach.eq_3 @ach.eq_4))))
    | _=>
     rw[hn]at hat ab3;dsimp only[pd]at hat ab3;refine aT trivial hat [8,15,16,17] [106,127] ?_;refine af fun K8 dz=>?_;refine A3 trivial [15,16,146] [106,127] ?_;refine abP rfl ?_;refine ah [2,3,4] [106,127] ?_;exact aN (Aq @ab3 (Aq @ach.eq_1 (Aq @ach.eq_2 (Aq @ach.eq_3 @ach.eq_4))))
   .have hF:eT 3 l = .form:=by
     match l,hl with
     | [],_=>rfl
     | [b],_=>rw[eT,if_neg (by omega)]
     | [b,c],hl=>simp at hl
     | b :: c :: d :: l,_=>rfl
    rw[hF];simp only[ach]
    have hn:¬ (l.length:Int)=2:=by omega
    have kh:¬ (l.length:Int)+1=3:=by omega
    have qf:=(Aq @hn (Aq @kh (Aq @sr (Aq @rB @lP))));refine abQ [8,14,120] [106] ?_;refine abP rfl ?_;refine ah [2,3,4] [106] ?_;exact cZ
  .by_cases hl:l.length=2
   .obtain⟨b,c,rfl⟩:∃ b c,l=[b,c]:=by
     match l,hl with
     | [b,c],_=>exact⟨b,c,rfl⟩
    have hcl:c.length < 2^40:=by have:=(uM c (by simp)).2;omega
    have hat:=GV G hE c hcl;have ab3:eT 4 [b,c]=(match ri c with | some v=>.name ⟨b,4,v⟩ | none=>.form):=rfl;unfold ri at ab3
    unfold afB at hat
    simp only[dS]at hat
    have qf:=(Aq @rB @lP);refine abQ [8,14,120] [106] ?_;refine abN rfl ?_;refine abO (cq _ ?_);refine ah [8,14,15] [106,127] ?_;refine af fun K7 de=>?_;refine ah [8,15,129] [106,127] ?_;refine abP rfl ?_
    cases hn:Lib.atoiAll c with
    | ok v=>
     rw[hn]at hat ab3;dsimp only at hat ab3;obtain⟨v0,v1⟩:=Lib.atoiAll_bounds hn;have hit:=JU G hP v v0 v1;simp only[dS]at hit;generalize Lib.itoa v=iv at hit ab3;refine aT trivial hat [8,15,16,17] [106,127] ?_;refine af fun K8 dz=>?_;by_cases hc:iv=c
     .rw[if_pos hc]at ab3;subst hc;refine oW (al _) (by kernel_rfl) [15,16,146] [106,127] (fun _ _=>trivial) (by kernel_rfl) fun K' ae=>?_;(repeat (refine eC fun K2 aa=>?_;simp[aO,aY];(repeat (refine⟨by omega,?_⟩));refine aa _ ?_;clear aa K2));refine eC fun K2 aa=>?_;simp[aO,aY];refine jm.data (hit) (by simp;rfl) (by simp;rfl) (by first | exact D.abY _ | simp[aC,abU,abK,D.le,D.le.go,D.le_refl,D.abY,aO,aY]) ?_;refine aa _ ?_;clear aa K2;simp only[aD,cz];(repeat (refine eC fun K2 aa=>?_;simp[aO,aY];(repeat (refine⟨by omega,?_⟩));refine aa _ ?_;clear aa K2));refine iL (ae _ ?_);refine AW.st (by simp[aO,aY];rfl) ?_;clear ae K';refine abN rfl ?_;refine abO (dz _ ?_);refine reK trivial de [15] [106,127] ?_;refine ah [2,3,4] [106,127] ?_;refine dX 127 ?_;exact aN (Aq @ab3 (Aq @ach.eq_1 (Aq @ach.eq_2 (Aq @ach.eq_3 (Aq @ach.eq_4 (Aq @cNm.eq_1 @afi))))))
     .rw[if_neg hc]at ab3;refine oW (al _) (by kernel_rfl) [15,16,146] [106,127] (fun _ _=>trivial) (by kernel_rfl) fun K' ae=>?_;(repeat (refine eC fun K2 aa=>?_;simp[aO,aY,hc];(repeat (refine⟨by omega,?_⟩));refine aa _ ?_;clear aa K2));refine eC fun K2 aa=>?_;simp[aO,aY,hc];refine jm.data (hit) (by simp;rfl) (by simp;rfl) (by first | exact D.abY _ | simp[aC,abU,abK,D.le,D.le.go,D.le_refl,D.abY,aO,aY,hc]) ?_;refine aa _ ?_;clear aa K2;simp only[aD,cz];(repeat (refine eC fun K2 aa=>?_;simp[aO,aY,hc];(repeat (refine⟨by omega,?_⟩));refine aa _ ?_;clear aa K2));refine iL (ae _ ?_);refine AW.st (by simp[aO,aY,hc];rfl) ?_;clear ae K';refine abP (by simp[hc]) ?_;refine ah [2,3,4] [106,127] ?_;exact aN (Aq @ab3 (Aq @ach.eq_1 (Aq @ach.eq_2 (Aq @ach.eq_3 @ach.eq_4))))
    | range=>
     rw[hn]at hat ab3;dsimp only[pd]at hat ab3;refine aT trivial hat [8,15,16,17] [106,127] ?_;refine af fun K8 dz=>?_;refine A3 trivial [15,16,146] [106,127] ?_;refine abP rfl ?_;refine ah [2,3,4] [106,127] ?_;exact aN (Aq @ab3 (Aq @ach.eq_1 (Aq @ach.eq_2 (Aq @ach.eq_3 @ach.eq_4))))
    | _=>
     rw[hn]at hat ab3;dsimp only[pd]at hat ab3;refine aT trivial hat [8,15,16,17] [106,127] ?_;refine af fun K8 dz=>?_;refine A3 trivial [15,16,146] [106,127] ?_;refine abP rfl ?_;refine ah [2,3,4] [106,127] ?_;exact aN (Aq @ab3 (Aq @ach.eq_1 (Aq @ach.eq_2 (Aq @ach.eq_3 @ach.eq_4))))
   .have hF:eT 4 l = .form:=by
     match l,hl with
     | [],_=>rfl
     | [b],_=>rw[eT,if_neg (by omega)]
     | [b,c],hl=>simp at hl
     | b :: c :: d :: l,_=>rfl
    rw[hF];simp only[ach]
    have hn:¬ (l.length:Int)=2:=by omega
    have kh:¬ (l.length:Int)+1=3:=by omega
    have qf:=(Aq @hn (Aq @kh (Aq @sr (Aq @rB @lP))));refine abQ [8,14,120] [106] ?_;refine abP rfl ?_;refine ah [2,3,4] [106] ?_;exact cZ
end Go.Proofs.YtdigkhaofjmgkaaGreatDoor
namespace Go.Av
section
variable {P:Program} {T:Ty} {Mv X:Nat->Prop} {G:aq} {N:Fr} {w w':World} {μ:Mu} {a:Act} {σ:St} {ops:Array Oper} {db:List Nat} {fp:List (Nat×Nat)}
def tB (P:Program) (T:Ty) (Mv:Nat->Prop) (G:aq) (N:Fr) (db:List Nat) (fp:List (Nat×Nat)) (i:Nat) (o:Oper) (σ aw:St):Prop:=
 lR P T Mv G N db i o σ aw/\(db.contains i=false->nd G fp σ.env i o.op)
theorem lR.env {i:Nat} {o:Oper} {σ aw:St} (h:lR P T Mv G N db i o σ aw):∃ v,aw.env=aD σ.env o.dst v:=by
 rcases h.2.2 with⟨_,c,y,_,_,rfl⟩ | ⟨_,_,x,H',_,rfl⟩
 .exact⟨_,rfl⟩
 .exact⟨_,rfl⟩
def tK (db:List Nat) (fp:List (Nat×Nat)) (ops:Array Oper) (i j:Nat) (oi oj:Oper):Bool:=rO db ops i j oi oj || (!db.contains i && !db.contains j && oi.apart ops oj && uR oi.op && uR oj.op && match fp.lookup i,fp.lookup j with
 | some r,some r'=>!(r == r')
 | _,_=>false)
theorem V6 {i j:Nat} {oi oj:Oper} (hc:tK db fp ops i j oi oj=true) {σ aG eL:St} (h1:tB P T Mv G N db fp i oi σ aG) (h2:tB P T Mv G N db fp j oj aG eL) :
  ∃ fc,tB P T Mv G N db fp j oj σ fc/\tB P T Mv G N db fp i oi fc eL:=by
 obtain⟨s1,t1⟩:=h1;obtain⟨s2,t2⟩:=h2
 have hap:oi.apart ops oj=true:=by
  simp only[tK,rO,acI,abI]at hc
  rcases hc with hc | hc
  .exact hc.1
  .exact hc.1.1.1.2
 have agj:∀ v,fB oj.op (aD σ.env oi.dst v) σ.env:=fun v t ht=>(adA hap (e:=σ.env) (v:=v)).1 t (iK ht);have eX:∀ v,fB oi.op σ.env (aD σ.env oj.dst v):=fun v t ht=>((adA hap (e:=σ.env) (v:=v)).2.1 t (iK ht)).symm;have aI:=(adA hap (e:=σ.env) (v:=cy)).2.2;obtain⟨v1,nq⟩:=s1.env
 have main:∃ fc,lR P T Mv G N db j oj σ fc/\lR P T Mv G N db i oi fc eL:=by
  simp only[tK,acI]at hc
  rcases hc with hc | hc
  .exact HK hc s1 s2
  .simp only[abI,aez]at hc;obtain⟨⟨⟨⟨⟨bi,bj⟩,_⟩,li⟩,lj⟩,sj⟩:=hc;have Mt:=t1 bi;have F3:=t2 bj
   cases bA:fp.lookup i with
   | none=>simp[bA]at sj
   | some r=>
    cases si:fp.lookup j with
    | none=>simp[bA,si]at sj
    | some r'=>
     have hr:r≠r':=by simpa[bA,si]using sj
     obtain⟨di,gi,s1⟩:=s1;obtain⟨dj,gj,s2⟩:=s2
     rcases s1 with⟨b,_⟩ | ⟨_,k1,x,H',e1,rfl⟩
     .rw[bi]at b;cases b
     rcases s2 with⟨b,_⟩ | ⟨_,k2,z,H2,e2,rfl⟩
     .rw[bj]at b;cases b
     dsimp only at e2 F3 nq;simp only[nd,bA]at Mt;simp only[nd,si]at F3;obtain⟨u,rfl,EE⟩:=e1.agy Mt;have e2:=e2.congr k2 (agj _);obtain⟨u',rfl,EF⟩:=e2.agy (Fc (agj _) F3);refine⟨⟨aD σ.env oj.dst z,adX σ.H r' u'⟩,⟨dj,gj,.inr ⟨bj,k2,z,adX σ.H r' u',EF σ.H (AY (H:=σ.H) (u:=u) (adr hr)).symm,rfl⟩⟩,di,gi,.inr ⟨bi,k1,x,adX (adX σ.H r' u') r u,(EE (adX σ.H r' u') (AY hr)).congr k1 (eX _),?_⟩⟩;rw[Lb hr,fG aI]
 obtain⟨fc,f1,f2⟩:=main;obtain⟨v3,v8⟩:=f1.env;refine⟨fc,⟨f1,fun hb=>?_⟩,f2,fun hb=>?_⟩
 .have h:=t2 hb;rw[nq]at h;exact Bp (agj _) h
 .rw[v8];exact Bp (eX _) (t1 hb)
def vq (P:Program) (T:Ty) (Mv:Nat->Prop) (G:aq) (N:Fr) (db:List Nat) (fp:List (Nat×Nat)) (ops:Array Oper):List Nat->St->St->Prop
 | [],σ,aw=>σ=aw
 | i :: l,σ,aw=>∃ o,ops[i]? = some o/\∃ aG,tB P T Mv G N db fp i o σ aG/\vq P T Mv G N db fp ops l aG aw
theorem Yr {p:Nat} {op:Oper} (hp:ops[p]? = some op):∀ (l1:List Nat) {l2:List Nat} {σ aw:St},(∀ q∈l1,∀ oq,ops[q]? = some oq->tK db fp ops q p oq op=true)->vq P T Mv G N db fp ops (l1 ++ p :: l2) σ aw->vq P T Mv G N db fp ops (p :: (l1 ++ l2)) σ aw:=by
 intro l1
 induction l1 with
 | nil=>intro l2 σ aw _ h;exact h
 | cons q l1 ih=>
  intro l2 σ aw bC h;obtain⟨oq,hq,aG,s1,rest⟩:=h;obtain⟨o',ho',eL,s2,p3⟩:=ih (fun q' hq'=>bC q' (by simp[hq'])) rest;rw[hp]at ho';obtain rfl:=AI ho';obtain⟨fc,f1,f2⟩:=V6 (bC q (by simp) oq hq) s1 s2;exact⟨op,hp,fc,f1,oq,hq,eL,f2,p3⟩
def xW (db:List Nat) (fp:List (Nat×Nat)) (ord:List Nat) (ops:Array Oper):Bool:=
 let t:=tb ops
 ord.length == ops.size && (ord.all fun i=>decide (i < ops.size)) && ((List.range ops.size).all fun i=>ord.contains i) && decide ord.Nodup &&
 ((List.range ops.size).all fun j=>match ops[j]? with
  | some oj=>oj.after.all fun e=>!Region.binds .any e || e.on < j
  | none=>true) &&
 go t ord
where
 go (t:List Nat):List Nat->Bool
 | []=>true
 | a :: l=>(l.all fun b=>match ops[a]?,ops[b]? with
  | some oa,some ob=>(oa.after.all fun e=>!Region.binds .any e || !(e.on == b)) && ((t.getD b 0).testBit a || tK db fp ops a b oa ob)
  | _,_=>true) && go t l
def BN (db:List Nat) (fp:List (Nat×Nat)) (ops:Array Oper) (a b:Nat):Prop:=∀ oa ob,ops[a]? = some oa->ops[b]? = some ob->
 (∀ e∈oa.after,Region.binds .any e=true->e.on≠b)/\(((tb ops).getD b 0).testBit a=true\/tK db fp ops a b oa ob=true)
theorem KT:∀ {l:List Nat},xW.go db fp ops (tb ops) l=true->l.Pairwise (BN db fp ops)
 | [],_=>.nil
 | a :: l,h=>by
  simp only[xW.go,abI]at h;refine .cons (fun b hb oa ob pO nF=>?_) (KT h.2);have:=ack.1 h.1 b hb;simp only[pO,nF,abI,acI]at this;refine⟨fun e he px heq=>?_,this.2⟩;have h1:=acr.1 this.1 e he;simp[px,heq]at h1
theorem Nz (hg:Good P T) (au:∀ j oj,ops[j]? = some oj->∀ e∈oj.after,Region.binds .any e=true->e.on < j) {Q:Exit->St->Prop} {w0:World} {gn:Mu} {σn:St} (hQ:Q .normal σn):∀ (n:Nat) (R:List Nat) (listed:Array Bool) (w:World) (μ:Mu) (a:Act) (σ:St),R.length=n->R.Nodup->
  (∀ j,j∈R↔j < ops.size/\listed.getD j true=false)->listed.size=ops.size->R.Pairwise (BN db fp ops)->
  (∀ j oj,ops[j]? = some oj->listed.getD j false=true->∀ e∈oj.after,Region.binds .any e=true->listed.getD e.on false=true)->vq P T Mv G N db fp ops R σ σn->In w X G μ N a σ->Ev Mv w0 gn w μ->
  wpAnyIn (wd N.ro) 0 P .any ops (After Mv X G N w0 gn Q) n listed a w:=by
 intro n
 induction n with
 | zero=>
  intro R listed w μ a σ hl _ hR aK _ _ ab6 hi aH;have:R=[]:=acq hl;subst this
  have hr:Region.ready .any ops listed=[]:=by
   apply adj.2;intro j hj;obtain⟨h1,o,ho,_⟩:=mem_ready.1 hj;exact absurd ((hR j).2 ⟨(IS.1 ho).1,h1⟩) (by simp)
  have:σ=σn:=ab6;subst this;exact⟨hr,μ,σ,hQ,hi,aH⟩
 | succ n ih=>
  intro R listed w μ a σ hl fi hR aK fN ie ab6 hi aH;refine⟨fun hr=>?_,fun i hir=>?_⟩
  .cases R with
   | nil=>simp at hl
   | cons j R=>
    obtain⟨ig,hj2⟩:=(hR j).1 (by simp)
    have bu:ops[j]? = some ops[j]:=by simp[ig]
    have jO:j∈Region.ready .any ops listed:=by
     refine mem_ready.2 ⟨hj2,ops[j],bu,fun e he hb=>?_⟩;have qS:=au j ops[j] bu e he hb
     have cr:e.on < ops.size:=by omega
     have aI:e.on ∉ (j :: R):=by
      intro hm
      rcases abV.1 hm with h | h
      .omega
      .exact ((acA.1 fN).1 _ h ops[j] ops[e.on] bu (by simp[cr])).1 e he hb rfl
     have:=mt (hR e.on).2 aI
     have fY:e.on < listed.size:=by omega
     simp only[cr,true_and,IT]at this ⊢;simp[fY]at this ⊢;exact this
    rw[hr]at jO;cases jO
  .obtain⟨hi1,oi,b7,bC⟩:=mem_ready.1 hir;have ny:i∈R:=(hR i).2 ⟨(IS.1 b7).1,hi1⟩;obtain⟨R1,R2,rfl⟩:=aem ny
   have aeW:=Yr (P:=P) (T:=T) (Mv:=Mv) (G:=G) (N:=N) (db:=db) (fp:=fp) b7 R1 (fun q hq oq jQ=>by
    have pP:BN db fp ops q i:=(acE.1 fN).2.2 q hq i (by simp)
    rcases (pP oq oi jQ b7).2 with h | h
    .exfalso;have jP:=vT au ie i i oi (abL _) b7 bC q h;have eS:=((hR q).1 (by simp[hq])).2
     have nI:q < listed.size:=by have:=(IS.1 jQ).1;omega
     simp[IT,nI]at jP eS;rw[jP]at eS;cases eS
    .exact h) ab6
   obtain⟨o',ho',aG,hstep,b9⟩:=aeW;rw[b7]at ho';obtain rfl:=AI ho';refine hstep.1.ok hg hi b7 fun w' ay a' aF iU=>?_
   have nD:(R1 ++ R2).Nodup:=by
    have:=fi;rw[ac2]at this ⊢;obtain⟨g1,g2,g3⟩:=this;exact⟨g1,(acF.1 g2).2,fun x hx y hy=>g3 x hx y (by simp[hy])⟩
   have nz:i ∉ R1 ++ R2:=by
    have:=fi;rw[ac2]at this;obtain⟨g1,g2,g3⟩:=this;intro hm
    rcases ab4.1 hm with h | h
    .exact g3 i h i (by simp) rfl
    .exact (acF.1 g2).1 h
   refine ih (R1 ++ R2) _ w' ay a' aG (by simp at hl ⊢;omega) nD (fun j=>?_) (by simpa using aK) ?_ ?_ b9 aF (aH.trans iU)
   .by_cases hji:j=i
    .subst hji
     have fY:j < listed.size:=by rw[aK];exact (IS.1 b7).1
     simp[fY];simpa using nz
    .rw[getD_set_ne true (adr hji)];rw[<- hR j];simp[hji]
   .rw[acE]at fN ⊢;obtain⟨g1,g2,g3⟩:=fN;exact⟨g1,(acA.1 g2).2,fun x hx y hy=>g3 x hx y (by simp[hy])⟩
   .intro j oj bu dK e he hb;by_cases hji:j=i
    .subst hji;rw[b7]at bu;obtain rfl:=AI bu;exact getD_set_true (bC e he hb)
    .rw[getD_set_ne false (adr hji)]at dK;exact getD_set_true (ie j oj bu dK e he hb)
def Bk (P:Program) (T:Ty) (Mv:Nat->Prop) (G:aq) (N:Fr) (db:List Nat) (fp:List (Nat×Nat)) (i:Nat) (o:Oper) (σ:St) (K:St->Prop):Prop:=eU N o/\o.guard=none/\
 if db.contains i=true then (match kA T G σ.env o with
  | some (c,y)=>c/\K ⟨aD σ.env o.dst (.d y),σ.H⟩
  | none=>False)
 else nd G fp σ.env i o.op/\kindOf o.op≠9/\match acm o.op with
  | some c=>aeT P G c σ.env o.dst σ.H [] [] K
  | none=>rp T G Mv o σ [] K
def p7 (P:Program) (T:Ty) (Mv:Nat->Prop) (G:aq) (N:Fr) (db:List Nat) (fp:List (Nat×Nat)) (K:St->Prop):List (Nat×Oper)->St->Prop
 | [],σ=>K σ
 | (i,o) :: rest,σ=>Bk P T Mv G N db fp i o σ (p7 P T Mv G N db fp K rest)
theorem Zf {K:St->Prop}:∀ (l:List Nat) (σ:St),(∀ i∈l,i < ops.size)->p7 P T Mv G N db fp K (b6 ops l) σ->∃ σn,K σn/\vq P T Mv G N db fp ops l σ σn:=by
 intro l
 induction l with
 | nil=>intro σ _ h;exact⟨σ,h,rfl⟩
 | cons i l ih=>
  intro σ hl h;have hi:=hl i (by simp)
  have ho:ops[i]? = some ops[i]:=by simp[hi]
  simp only[b6,ho]at h;generalize ops[i]=o at ho h;simp only[p7,Bk]at h;obtain⟨hd,hgu,h⟩:=h
  have fin:∀ aG,tB P T Mv G N db fp i o σ aG->p7 P T Mv G N db fp K (b6 ops l) aG->∃ σn,K σn/\vq P T Mv G N db fp ops (i :: l) σ σn:=fun aG hs h1=>by
   obtain⟨σn,hk,hr⟩:=ih aG (fun j hj=>hl j (by simp[hj])) h1;exact⟨σn,hk,o,ho,aG,hs,hr⟩
  split at h
  .rename_i hb;split at h
   .rename_i c y hw;obtain⟨hc,h⟩:=h;exact fin _ ⟨⟨hd,hgu,.inl ⟨hb,c,y,hw,hc,rfl⟩⟩,fun e=>by rw[hb]at e;cases e⟩ h
   .exact h.elim
  .rename_i hb
   have hb:db.contains i=false:=by simpa using hb
   obtain⟨D6,hk,h⟩:=h;split at h
   .rename_i c hc;obtain⟨y,g,ds,ht,hp,ac8,h⟩:=h;refine fin _ ⟨⟨hd,hgu,.inr ⟨hb,hk,.d y,σ.H,?_,rfl⟩⟩,fun _=>D6⟩ h;unfold Ex;simp only[hc];exact⟨y,⟨g,_,ht,.inl ⟨ds,rfl,hp⟩⟩,rfl,trivial⟩
   .rename_i hc;unfold rp at h;split at h
    .rename_i hw;split at h
     .rename_i c x aG h1;obtain⟨bT,ac8,h⟩:=h;have he:=agb hk h1;obtain⟨e,H⟩:=σ;obtain⟨e1,H1⟩:=aG;dsimp only at he;subst he;refine fin _ ⟨⟨hd,hgu,.inr ⟨hb,hk,x,H1,?_,rfl⟩⟩,fun _=>D6⟩ h;unfold Ex;simp only[hc];rw[if_pos hw];exact⟨c,h1,bT⟩
     .exact h.elim
    .rename_i hw;split at h
     .rename_i c x h1;obtain⟨bT,ac8,h⟩:=h;refine fin _ ⟨⟨hd,hgu,.inr ⟨hb,hk,x,σ.H,?_,rfl⟩⟩,fun _=>D6⟩ h;unfold Ex;simp only[hc];rw[if_neg hw];exact⟨c,h1,bT,trivial⟩
     .exact h.elim
theorem M9 (hg:Good P T) (hm:P.follows .mixedOrders=true) (db:List Nat) (fp:List (Nat×Nat)) (ord:List Nat) {id:Nat} (hok:xW db fp ord ops=true) {Q:Exit->St->Prop} {σ:St} (h:p7 P T Mv G N db fp (fun aw=>Q .normal aw) (b6 ops ord) σ):AW P Mv X G N (.region id ops true) Q σ:=fun w μ a hi=>by
 unfold xW at hok;simp only[abI]at hok;obtain⟨⟨⟨⟨⟨h1,h2⟩,h3⟩,h4⟩,h5⟩,h6⟩:=hok
 have hlen:ord.length=ops.size:=by simpa using h1
 have au:∀ i∈ord,i < ops.size:=fun i hi=>by simpa using ack.1 h2 i hi
 have bC:∀ i,i < ops.size->i∈ord:=fun i hi=>by simpa using ack.1 h3 i (acW.2 hi)
 have fi:ord.Nodup:=by simpa using h4
 have pG:∀ j oj,ops[j]? = some oj->∀ e∈oj.after,Region.binds .any e=true->e.on < j:=fun j oj bu e he hb=>by
  have:=ack.1 h5 j (acW.2 (IS.1 bu).1);simp only[bu]at this;have:=acr.1 this e he;simpa[hb]using this
 obtain⟨σn,hQ,ab6⟩:=Zf ord σ au h;refine wpIn_region_any hm ?_;obtain⟨aF,aH⟩:=hi.j8 (Mv:=Mv) (bZ.drew w);refine Nz hg pG hQ ops.size ord _ w.drew μ a σ hlen fi (fun j=>?_) (by simp) (KT h6) ?_ ab6 aF aH
 .constructor
  .intro hj;have:=au j hj;simp[IT,this]
  .intro hj;exact bC j hj.1
 .intro j oj bu dK;have hj:=(IS.1 bu).1;simp[IT,hj]at dK
theorem BF (hg:Good P T) (hm:P.follows .mixedOrders=true) (db:List Nat) (fp:List (Nat×Nat)) (ord:List Nat) (l ns:List Nat) (hM:∀ r,ns.contains r=false->Mv r) {id:Nat} (hok:xW db fp ord ops=true) {y:Code} {Q:Exit->St->Prop} {σ:St}
  (h:∀ K:St->Prop,(∀ τ:St,AW P Mv X G N y Q (τ.norm l ns)->K τ)->p7 P T Mv G N db fp K (b6 ops ord) σ):AW P Mv X G N (.seq (.region id ops true) y) Q σ:=
 oX (M9 hg hm db fp ord hok (h _ fun _ h=>h.norm l ns hM))
theorem FZ {K:St->Prop} {i:Nat} {l:List Nat} {o:Oper} (ho:ops[i]? = some o) (h:∀ K':St->Prop,(∀ τ,p7 P T Mv G N db fp K (b6 ops l) τ->K' τ)->Bk P T Mv G N db fp i o σ K'):p7 P T Mv G N db fp K (b6 ops (i :: l)) σ:=by
 have:b6 ops (i :: l)=(i,o) :: b6 ops l:=by simp[b6,ho]
 rw[this];exact h _ fun _ h=>h
theorem F0 {K:St->Prop} (h:K σ):p7 P T Mv G N db fp K (b6 ops []) σ:=h
end
attribute [simp] Bk
