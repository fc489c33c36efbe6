/- Parts. -/
import Derived.Test.YtoohljflflnbeaaGreatDoorSt34
import Derived.Test.YtoohljflflnbeaaGreatDoorSt35
import Derived.Test.YtoohljflflnbeaaGreatDoorSt36
import Derived.Test.YtoohljflflnbeaaGreatDoorSt37
import Derived.Test.YtoohljflflnbeaaGreatDoorSt38
import Derived.Lib.ParseIntBTie
set_option linter.unusedSectionVars false
set_option linter.unusedSimpArgs false
set_option linter.unusedVariables false
set_option maxHeartbeats 16000000
set_option maxRecDepth 100000
open Go.Proofs.Tryz
namespace Go.Proofs.YtoohljflflnbeaaGreatDoor
open Go.Av Go.Shelf Go.RowKit
def qU (G:aF):Prop:=G 6=some (.nW (Lib.pow10Tab.map fun z=>Value.int .u64 z).toArray)
def xG (v:Value):Prop:=v = .nilIface\/∃ te pe,v = .iface te pe
def sr (G:aF) (es er:Value):Prop:=(G 7=some (.ip [.v es])/\xG es)/\G 8=some (.ip [.v er])/\xG er
theorem A3 {G:aF} {g:Nat} {v:Value} {w:World} {X:Nat->Prop} (hm:G g=some (.ip [.v v])) (cY:∀ g x,G g=some x->RD w X (.pointer (some ⟨g,0,none⟩)) x):w.cell? ⟨g,0,none⟩=some v:=by
 obtain⟨b',off,f,hp,_,_,dW,hr⟩:=(cY _ _ hm).pV;have h0:=dW 0 al;have h1:=(hr 0 _ rfl).scalar;rw[h1]at h0;injection hp with hp;injection hp with hp;injection hp with ke jD _;subst ke jD;exact h0
theorem LV {G:aF} (h:qU G) {w:World} {X:Nat->Prop} (cY:∀ g x,G g=some x->RD w X (.pointer (some ⟨g,0,none⟩)) x):Lib.TabIs prog w "internal/strconv.uint64pow10" .u64 Lib.pow10Tab:=by
 have h1:=cY _ _ h
 obtain⟨ty,fr,hh⟩:∃ ty fr,w.heap[6]? = some (.cells (Lib.pow10Tab.map fun z=>Value.int .u64 z).toArray ty fr):=by
  generalize hy:D.nW _=y at h1;cases h1<;>cases hy;exact⟨_,_,by assumption⟩
 unfold Lib.TabIs World.var?;rw[show prog.globalNamed "internal/strconv.uint64pow10" = some 6 by kernel_rfl];simp only[acz,hh]
theorem I7 (w:World) (os:Array Obj):cT w (Go.Sort.grow w os):=⟨by simp[Go.Sort.grow],rfl,rfl,rfl,fun b hb=>by simp[Go.Sort.grow,abM hb]⟩
theorem cT.trans' {w w1 w2:World} (h:cT w w1) (h2:cT w1 w2):cT w w2:=⟨acb h.size h2.size,h2.os.trans h.os,h2.tape.trans h.tape,h2.output.trans h.output,fun b hb=>(h2.same b (abu hb h.size)).trans (h.same b hb)⟩
theorem KE (G:aF) (hP:qU G) (n:Int) (h0:-9223372036854775808<=n) (h1:n<=9223372036854775807):aH prog G 82 [.v (.int .i64 n)] (dS (Lib.itoa n)):=by
 refine aH.pa (fU.of func82 rfl rfl) fun X w vs bc cm cY=>?_
 obtain⟨u,rfl⟩:∃ u,vs = #[u]:=by
  match vs,bc with
  | ⟨[u]⟩,_=>exact⟨u,rfl⟩
 have hu:=(cm 0 u _ rfl rfl).scalar;subst hu;refine (Any.strconv_Itoa Tryz.KX n h0 h1 w (LV hP cY)).mono fun e w' ⟨he,k,os,hw⟩=>⟨_,he,by rw[hw];exact cT.trans' (AE w k) (I7 _ _),.v _⟩
theorem Qr (G:aF) (hP:qU G) (n:Int) (h0:-9223372036854775808<=n) (h1:n<=9223372036854775807):aH prog G 226 [.v (.int .i64 n),.v (.int .i64 10)] (dS (Lib.itoa n)):=by
 refine aH.pa (fU.of func226 rfl rfl) fun X w vs bc cm cY=>?_
 obtain⟨u,v,rfl⟩:∃ u v,vs = #[u,v]:=by
  match vs,bc with
  | ⟨[u,v]⟩,_=>exact⟨u,v,rfl⟩
 have hu:=(cm 0 u _ rfl rfl).scalar;have hv:=(cm 1 v _ rfl rfl).scalar;subst hu hv;refine (Any.strconv_FormatInt_10 Tryz.T8 n h0 h1 w (LV hP cY)).mono fun e w' ⟨he,k,os,hw⟩=>⟨_,he,by rw[hw];exact cT.trans' (AE w k) (I7 _ _),.v _⟩
def ri (f s:Tx) (ev:Value):D:=.b6 422 (.ip [dS f,dS s,.v ev])
def tZ (f s:Tx) (es er:Value):D:=match Lib.atoiAll s with
 | .ok v=>.bI [.v (.int .i64 v),.v .nilIface]
 | .range=>.bI [.v (.int .i64 (Lib.atoiSat s)),ri f s er]
 | _=>.bI [.v (.int .i64 0),ri f s es]
theorem Cm {w:World} {X:Nat->Prop} (v:Int):RD w X (.tuple #[.int .i64 v,.nilIface]) (.bI [.v (.int .i64 v),.v .nilIface]):=.bI rfl fun j u c hu hc=>by
 match j,hu,hc with
 | 0,hu,hc=>simp at hu hc;subst hu hc;exact .v _
 | 1,hu,hc=>simp at hu hc;subst hu hc;exact .v _
 | j+2,hu,hc=>simp at hu
theorem Cl {w w':World} {X:Nat->Prop} (j8:∀ b,X b->b < w.heap.size) {v:Int} {f s:Tx} {ev:Value} {N:Nat} {T:TypeId} (hN:w.heap.size<=N) (hc:w'.heap[N]? = some (.cells #[.string (bs f),.string (bs s),ev] T (0,0))) :
  RD w' X (.tuple #[.int .i64 v,.iface 422 (.pointer (some ⟨N,0,none⟩))]) (.bI [.v (.int .i64 v),ri f s ev]):=by
 have dW:∀ j,w'.cell? ⟨N,j,none⟩=(#[.string (bs f),.string (bs s),ev]:Array Value)[j]?:=fun j=>by simp[World.cell?,hc]
 refine .bI rfl fun j u c hu hx=>?_
 match j,hu,hx with
 | 0,hu,hx=>simp at hu hx;subst hu hx;exact .v _
 | 1,hu,hx=>
  simp at hu hx;subst hu hx;refine .b6 (.ip (f:=fun j=>(w'.cell? ⟨N,j,none⟩).getD undef) (fun hx=>by have:=j8 _ hx;omega) (aa1.1 hc).1 (fun j hj=>?_) fun j c eh=>?_)
  .have RZ:j < 3:=by simpa using hj
   rw[abe,dW]
   match j,RZ with
   | 0,_=>rfl
   | 1,_=>rfl
   | 2,_=>rfl
  .rw[dW]
   match j,eh with
   | 0,eh=>simp at eh;subst eh;exact .v _
   | 1,eh=>simp at eh;subst eh;exact .v _
   | 2,eh=>simp at eh;subst eh;exact .v _
   | j+3,eh=>simp at eh
 | j+2,hu,hx=>simp at hu
theorem Ip (w:World) (e:TypeId) (s:ByteArray):cT w (Lib.bytesWorld w e s):=sy (Lib.bytesWorld_below w e s)
def OM:Tx:=[65,116,111,105]
def Vq:Tx:=[80,97,114,115,101,73,110,116]
theorem H9 (G:aF) {es er:Value} (hE:sr G es er) (s:Tx) (hs:s.length < 2^40):aH prog G 239 [dS s] (tZ OM s es er):=by
 obtain⟨⟨h1,D1⟩,h2,D3⟩:=hE;refine Cd (fU.of func239 rfl rfl) fun X w vs j8 bc cm cY=>?_
 obtain⟨u,rfl⟩:∃ u,vs = #[u]:=by
  match vs,bc with
  | ⟨[u]⟩,_=>exact⟨u,rfl⟩
 have hu:=(cm 0 u _ rfl rfl).scalar;subst hu
 have SX:(bs s).size < 2^40:=by rw[bD];exact hs
 unfold tZ
 cases hn:Lib.atoiAll s with
 | ok v=>
  refine (Any.strconv_Atoi_ok Tryz.F4 (bs s) aa v hn w).mono fun e w' ⟨he,hw⟩=>⟨_,he,?_,Cm v⟩
  rcases hw with rfl | ⟨t,rfl⟩
  .exact cT.refl _
  .exact Ip _ _ _
 | range=>
  refine (Any.strconv_Atoi_range Tryz.F4 (bs s) aa hn er w (A3 h2 cY) D3).mono fun e w' ⟨N,he,hN,hc,hB⟩=>⟨_,he,sy hB,Cl j8 hN hc⟩
 | _=>
  refine (Any.strconv_Atoi_syntax Tryz.F4 (bs s) aa hn es w (A3 h1 cY) D1).mono fun e w' ⟨N,he,hN,hc,hB⟩=>⟨_,he,sy hB,Cl j8 hN hc⟩
theorem Vr (G:aF) {es er:Value} (hE:sr G es er) (s:Tx) (hs:s.length < 2^40):aH prog G 225 [dS s,.v (.int .i64 10),.v (.int .i64 64)] (tZ Vq s es er):=by
 obtain⟨⟨h1,D1⟩,h2,D3⟩:=hE;refine Cd (fU.of func225 rfl rfl) fun X w vs j8 bc cm cY=>?_
 obtain⟨u,v1,v2,rfl⟩:∃ u v1 v2,vs = #[u,v1,v2]:=by
  match vs,bc with
  | ⟨[u,v1,v2]⟩,_=>exact⟨u,v1,v2,rfl⟩
 have hu:=(cm 0 u _ rfl rfl).scalar;have oK:=(cm 1 v1 _ rfl rfl).scalar;have wC:=(cm 2 v2 _ rfl rfl).scalar;subst hu oK wC
 have SX:(bs s).size < 2^40:=by rw[bD];exact hs
 have DK:Lib.parseIntB 64 (bs s).data.toList=Lib.atoiAll s:=by rw[cU];exact Lib.parseIntB_64 s
 unfold tZ
 cases hn:Lib.atoiAll s with
 | ok v=>
  refine (Any.strconv_ParseInt_10_at64_ok Tryz.F5 (bs s) aa v (DK.trans hn) w).mono fun e w' ⟨he,hw⟩=>⟨_,he,?_,Cm v⟩
  rcases hw with rfl | ⟨t,rfl⟩
  .exact cT.refl _
  .exact Ip _ _ _
 | range=>
  refine (Any.strconv_ParseInt_10_at64_range Tryz.F5 (bs s) aa (DK.trans hn) er w (A3 h2 cY) D3).mono fun e w' ⟨N,he,hN,hc,hB⟩=>⟨_,by rw[cU,Lib.intSat_64]at he;exact he,sy hB,Cl j8 hN hc⟩
 | _=>
  refine (Any.strconv_ParseInt_10_at64_syntax Tryz.F5 (bs s) aa (DK.trans hn) es w (A3 h1 cY) D1).mono fun e w' ⟨N,he,hN,hc,hB⟩=>⟨_,he,sy hB,Cl j8 hN hc⟩
end Go.Proofs.YtoohljflflnbeaaGreatDoor
namespace Go.Proofs.YtoohljflflnbeaaGreatDoor
open Go.Av
def cQ:po->D
 | .form=>.bI [.v (.pointer none),.v (.pointer none),.b6 50 (.v (.int .i64 3))]
 | .bad c off=>.bI [.v (.pointer none),.v (.pointer none),.b6 269 (.ip [.v (.int .i64 c),.v (.int .i64 off)])]
 | .name n=>.bI [.ip (bH n),.v (.pointer none),.v .nilIface]
 | .nQ r=>.bI [.v (.pointer none),.ip (cW r),.v .nilIface]
theorem Tg (l:List Tx) (s:Tx):idx (fun x=>s == x) l=iP l s:=by
 unfold iP;congr 1;funext x;by_cases h:s=x
 .subst h;simp
 .have h2:x≠s:=fun e=>h e.symm;rw[beq_eq_false_iff_ne.2 h,beq_eq_false_iff_ne.2 h2]
theorem BL (l:List Tx) (s:Tx):-1<=iP l s/\iP l s < l.length:=by
 by_cases h:iP l s < 0
 .unfold iP idx at h ⊢
  cases hf:l.findIdx? (fun x=>x == s) with
  | none=>simp;omega
  | some k=>rw[hf]at h;simp at h;omega
 .obtain⟨k,hk,he,_⟩:=wI h;have o3:iP l s=(k:Int):=he;omega
theorem Py (c:Option Ex):qg c=dC c:=by cases c<;>rfl
theorem qE:(⟨#[61]⟩:ByteArray)=bs [61]:=rfl
theorem tK:IntKind.i64.wrap 0=0:=bh
theorem nX:IntKind.i64.wrap 1=1:=bh
theorem ac0:type_of% (Aq @cQ.eq_1 (Aq @cQ.eq_2 (Aq @cQ.eq_3 @cQ.eq_4))):=(Aq @cQ.eq_1 (Aq @cQ.eq_2 (Aq @cQ.eq_3 @cQ.eq_4)))
theorem ac1:type_of% (Aq @cQ.eq_1 (Aq @cQ.eq_2 (Aq @cQ.eq_3 (Aq @cQ.eq_4 (Aq @bH.eq_1 @acB))))):=(Aq @cQ.eq_1 (Aq @cQ.eq_2 (Aq @cQ.eq_3 (Aq @cQ.eq_4 (Aq @bH.eq_1 @acB)))))
theorem ade:type_of% (Aq @tK @nX):=(Aq @tK @nX)
theorem acY:type_of% (Aq @acJ (Aq @acK @acI)):=(Aq @acJ (Aq @acK @acI))
theorem Uq (G:aF) (hM:nh G) (hP:qU G) (hG:tR G) {es er:Value} (hE:sr G es er) (s:Tx) (hs:s.length<=20000) (h0:gx s≠[]):aH prog G 180 [dS s] (cQ (fY s)):=by
 have l7:=WK G hM s 61 aa;have Bn:=fun (ws:List Tx) (x:Tx) (h:ws.length < 2^60)=>index_spec G none ws x h;simp only[Tg]at Bn;by_cases sK:(61:UInt8)∈s
 .have hle:=Az 61 s
  have ka:fY s=oR (cutAt 61 s).1 (cutAt 61 s).2 (gx (cutAt 61 s).1):=by unfold fY;rw[if_pos sK]
  rw[ka];simp only[sK,if_true,decide_true]at l7;generalize (cutAt 61 s).1=hd at l7 hle ⊢;generalize (cutAt 61 s).2=rest at l7 hle ⊢;have eW:=IY G hd aa;have mQ:=CV hd;generalize nI:gx hd=ws at eW mQ ⊢;have eY:=Vv G rest aa;rw[Py]at eY;have gR:=YY G hG (gB rest).2;have hR:∀ k nm,lu k nm hd rest=(match (gB rest).2 with | some (c,o)=>.bad c (hd.length+1+o.getD 0) | none=>.nQ ⟨k,nm,(gB rest).1⟩):=fun _ _=>rfl;simp only[dS]at l7 eW eY ⊢
  match ws,eW,mQ with
  | [],eW,mQ=>
   show aH _ _ _ _ (cQ .form);simp only[cQ];refine aH.aU (aw _) func180 rfl rfl (rs:=[.tmp 2,.tmp 3,.tmp 4]) results180 (by simp[ntmps180]) fun X=>?_;simp only[ntmps180,List.map];refine aO [0] [] ?_;have qf:=@qE;refine eC l7 [5,6,7] [] ?_;refine bB trivial eW [5,6,7,8] [] ?_;refine ah fun K1 aI=>aO [5,6,8,26] [] ?_;refine aD (aO [5,6,8,9] [28] ?_);refine ah fun K2 ak=>aO [5,6,8,9,31] [28] ?_;refine aj (ax ?_);refine ak _ (AW.norm [5,6,8,9] [28] aT (AW.st bq ?_));refine ah fun K3 bF=>aO [5,6,8,9,54] [28] ?_;refine aD (aO [2,3,4] [28] ?_);exact kr
  | [a],eW,mQ=>
   show aH _ _ _ _ (cQ (lu 1 a hd rest));rw[hR];have hsome:=fun h=>zr (t:=rest) h;have df:=fun c o h=>zq (t:=rest) (c:=c) (p:=o) h;generalize (gB rest).1=oe at eY hsome ⊢;generalize (gB rest).2=oc at eY gR hsome df ⊢
   match oc,eY,gR,hsome,df with
   | some (c,some o),eY,gR,_,df=>
    have jT:=df c o rfl
    have hcast:((hd.length+1+o:Nat):Int)=(hd.length:Int)+1+o:=aa
    simp only[bC]at eY;simp only[cQ,acs];refine aH.aU (aw _) func180 rfl rfl (rs:=[.tmp 2,.tmp 3,.tmp 4]) results180 (by simp[ntmps180]) fun X=>?_;simp only[ntmps180,List.map];refine aO [0] [] ?_;have qf:=@qE;refine eC l7 [5,6,7] [] ?_;refine bB trivial eW [5,6,7,8] [] ?_;refine ah fun K1 aI=>aO [5,6,8,26] [] ?_;refine aD (aO [5,6,8,9] [28] ?_);refine ah fun K2 ak=>aO [5,6,8,9,31] [28] ?_;refine aj (ax ?_);refine ak _ (AW.norm [5,6,8,9] [28] aT (AW.st bq ?_));refine ah fun K3 bF=>aO [5,6,8,9,54] [28] ?_;refine aj (ax (bF _ ?_));refine aO [5,6,9] [28] ?_;refine bB trivial eY [5,9,10,11] [28] ?_;refine ah fun K4 cF=>af acY [5,9,10,11,12,13] [28] ?_;refine aO [5,9,10,11,12,75] [28] ?_;refine aD ?_;have qf:=@bD;refine gh [2,3,4] [28,89] ?_;refine fF 89 ?_;exact bg @hcast
   | some (c,none),eY,gR,_,_=>
    have hcast:((hd.length+1:Nat):Int)=(hd.length:Int)+1:=aa
    simp only[bC,codeF]at eY gR;simp only[cQ,Option.getD_none,abT];refine aH.aU (aw _) func180 rfl rfl (rs:=[.tmp 2,.tmp 3,.tmp 4]) results180 (by simp[ntmps180]) fun X=>?_;simp only[ntmps180,List.map];refine aO [0] [] ?_;have qf:=@qE;refine eC l7 [5,6,7] [] ?_;refine bB trivial eW [5,6,7,8] [] ?_;refine ah fun K1 aI=>aO [5,6,8,26] [] ?_;refine aD (aO [5,6,8,9] [28] ?_);refine ah fun K2 ak=>aO [5,6,8,9,31] [28] ?_;refine aj (ax ?_);refine ak _ (AW.norm [5,6,8,9] [28] aT (AW.st bq ?_));refine ah fun K3 bF=>aO [5,6,8,9,54] [28] ?_;refine aj (ax (bF _ ?_));refine aO [5,6,9] [28] ?_;refine bB trivial eY [5,9,10,11] [28] ?_;refine ah fun K4 cF=>af acY [5,9,10,11,12,13] [28] ?_;refine aO [5,9,10,11,12,75] [28] ?_;refine aj (ax (cF _ ?_));refine ah fun K5 cI=>aO [5,9,10,11,92] [28] ?_;refine aD ?_;have qf:=@bD;refine eC gR [2,3,4] [28,99] ?_;refine fF 99 ?_;exact bg @hcast
   | none,eY,gR,hsome,_=>
    obtain⟨e,rfl⟩:=hsome rfl;obtain⟨ta,ca,kh⟩:=gk e;simp only[dC,kh,bC]at eY;simp only[cQ,cW,dC,kh,dS];refine aH.aU (aw _) func180 rfl rfl (rs:=[.tmp 2,.tmp 3,.tmp 4]) results180 (by simp[ntmps180]) fun X=>?_;simp only[ntmps180,List.map];refine aO [0] [] ?_;have qf:=@qE;refine eC l7 [5,6,7] [] ?_;refine bB trivial eW [5,6,7,8] [] ?_;refine ah fun K1 aI=>aO [5,6,8,26] [] ?_;refine aD (aO [5,6,8,9] [28] ?_);refine ah fun K2 ak=>aO [5,6,8,9,31] [28] ?_;refine aj (ax ?_);refine ak _ (AW.norm [5,6,8,9] [28] aT (AW.st bq ?_));refine ah fun K3 bF=>aO [5,6,8,9,54] [28] ?_;refine aj (ax (bF _ ?_));refine aO [5,6,9] [28] ?_;refine bB trivial eY [5,9,10,11] [28] ?_;refine ah fun K4 cF=>af acY [5,9,10,11,12,13] [28] ?_;refine aO [5,9,10,11,12,75] [28] ?_;refine aj (ax (cF _ ?_));refine ah fun K5 cI=>aO [5,9,10,11,92] [28] ?_;refine aj (ax (cI _ ?_));refine aO [9] [28] ?_;refine aO [2,3,4] [28] ?_;refine fF 28 ?_;exact kr
  | [a,b],eW,mQ=>
   have iT:=Bn mT a bh;simp only[dS]at iT;show aH _ _ _ _ (cQ (if iP mT a < 2 then .form else lu (iP mT a) b hd rest));have ov:=BL mT a;generalize iP mT a=k at iT ov ⊢;have Jw:k < 7:=ov.2;by_cases hk:k < 2
   .rw[if_pos hk];simp only[cQ];refine aH.aU (aw _) func180 rfl rfl (rs:=[.tmp 2,.tmp 3,.tmp 4]) results180 (by simp[ntmps180]) fun X=>?_;simp only[ntmps180,List.map];refine aO [0] [] ?_;have qf:=@qE;refine eC l7 [5,6,7] [] ?_;refine bB trivial eW [5,6,7,8] [] ?_;refine ah fun K1 aI=>aO [5,6,8,26] [] ?_;refine aD (aO [5,6,8,9] [28] ?_);refine ah fun K2 ak=>aO [5,6,8,9,31] [28] ?_;refine aD (ea (aw _) fun K' ai=>?_);(repeat refine aq fun Kq ae=>?_;simp;(repeat refine⟨aa,?_⟩);refine ae _ ?_);refine aq fun Kq ae=>?_;simp;refine ch.kU (iT) bq (by first | exact D.aV _ | simp[aL,IS,AT,D.le,D.le.go,D.le_refl,D.aV]) (by simp[D.scalar]) ?_;refine ae _ ?_;simp only[aR,cw];(repeat refine aq fun Kq ae=>?_;simp;(repeat refine⟨aa,?_⟩);refine ae _ ?_);refine aZ (ai _ ?_);refine ak _ (AW.norm [5,6,8,9] [28,33] aT (AW.st bq ?_));refine ah fun K3 bF=>?_;have qf:=@hk;refine aC [5,6,8,9,54] [28,33] ?_;refine aD (aO [2,3,4] [28,33] ?_);exact kr
   rw[if_neg hk];rw[hR];have hsome:=fun h=>zr (t:=rest) h;have df:=fun c o h=>zq (t:=rest) (c:=c) (p:=o) h;generalize (gB rest).1=oe at eY hsome ⊢;generalize (gB rest).2=oc at eY gR hsome df ⊢
   match oc,eY,gR,hsome,df with
   | some (c,some o),eY,gR,_,df=>
    have jT:=df c o rfl
    have hcast:((hd.length+1+o:Nat):Int)=(hd.length:Int)+1+o:=aa
    simp only[bC]at eY;simp only[cQ,acs];refine aH.aU (aw _) func180 rfl rfl (rs:=[.tmp 2,.tmp 3,.tmp 4]) results180 (by simp[ntmps180]) fun X=>?_;simp only[ntmps180,List.map];refine aO [0] [] ?_;have qf:=@qE;refine eC l7 [5,6,7] [] ?_;refine bB trivial eW [5,6,7,8] [] ?_;refine ah fun K1 aI=>aO [5,6,8,26] [] ?_;refine aD (aO [5,6,8,9] [28] ?_);refine ah fun K2 ak=>aO [5,6,8,9,31] [28] ?_;refine aD (ea (aw _) fun K' ai=>?_);(repeat refine aq fun Kq ae=>?_;simp;(repeat refine⟨aa,?_⟩);refine ae _ ?_);refine aq fun Kq ae=>?_;simp;refine ch.kU (iT) bq (by first | exact D.aV _ | simp[aL,IS,AT,D.le,D.le.go,D.le_refl,D.aV]) (by simp[D.scalar]) ?_;refine ae _ ?_;simp only[aR,cw];(repeat refine aq fun Kq ae=>?_;simp;(repeat refine⟨aa,?_⟩);refine ae _ ?_);refine aZ (ai _ ?_);refine ak _ (AW.norm [5,6,8,9] [28,33] aT (AW.st bq ?_));refine ah fun K3 bF=>?_;have qf:=@hk;refine aC [5,6,8,9,54] [28,33] ?_;refine aj (ax (bF _ ?_));refine aO [5,6,9] [28,33] ?_;refine bB trivial eY [5,9,10,11] [28,33] ?_;refine ah fun K4 cF=>af acY [5,9,10,11,12,13] [28,33] ?_;refine aO [5,9,10,11,12,75] [28,33] ?_;refine aD ?_;have qf:=@bD;refine gh [2,3,4] [28,33,89] ?_;refine fF 89 ?_;exact bg @hcast
   | some (c,none),eY,gR,_,_=>
    have hcast:((hd.length+1:Nat):Int)=(hd.length:Int)+1:=aa
    simp only[bC,codeF]at eY gR;simp only[cQ,Option.getD_none,abT];refine aH.aU (aw _) func180 rfl rfl (rs:=[.tmp 2,.tmp 3,.tmp 4]) results180 (by simp[ntmps180]) fun X=>?_;simp only[ntmps180,List.map];refine aO [0] [] ?_;have qf:=@qE;refine eC l7 [5,6,7] [] ?_;refine bB trivial eW [5,6,7,8] [] ?_;refine ah fun K1 aI=>aO [5,6,8,26] [] ?_;refine aD (aO [5,6,8,9] [28] ?_);refine ah fun K2 ak=>aO [5,6,8,9,31] [28] ?_;refine aD (ea (aw _) fun K' ai=>?_);(repeat refine aq fun Kq ae=>?_;simp;(repeat refine⟨aa,?_⟩);refine ae _ ?_);refine aq fun Kq ae=>?_;simp;refine ch.kU (iT) bq (by first | exact D.aV _ | simp[aL,IS,AT,D.le,D.le.go,D.le_refl,D.aV]) (by simp[D.scalar]) ?_;refine ae _ ?_;simp only[aR,cw];(repeat refine aq fun Kq ae=>?_;simp;(repeat refine⟨aa,?_⟩);refine ae _ ?_);refine aZ (ai _ ?_);refine ak _ (AW.norm [5,6,8,9] [28,33] aT (AW.st bq ?_));refine ah fun K3 bF=>?_;have qf:=@hk;refine aC [5,6,8,9,54] [28,33] ?_;refine aj (ax (bF _ ?_));refine aO [5,6,9] [28,33] ?_;refine bB trivial eY [5,9,10,11] [28,33] ?_;refine ah fun K4 cF=>af acY [5,9,10,11,12,13] [28,33] ?_;refine aO [5,9,10,11,12,75] [28,33] ?_;refine aj (ax (cF _ ?_));refine ah fun K5 cI=>aO [5,9,10,11,92] [28,33] ?_;refine aD ?_;have qf:=@bD;refine eC gR [2,3,4] [28,33,99] ?_;refine fF 99 ?_;exact bg @hcast
   | none,eY,gR,hsome,_=>
    obtain⟨e,rfl⟩:=hsome rfl;obtain⟨ta,ca,kh⟩:=gk e;simp only[dC,kh,bC]at eY;simp only[cQ,cW,dC,kh,dS];refine aH.aU (aw _) func180 rfl rfl (rs:=[.tmp 2,.tmp 3,.tmp 4]) results180 (by simp[ntmps180]) fun X=>?_;simp only[ntmps180,List.map];refine aO [0] [] ?_;have qf:=@qE;refine eC l7 [5,6,7] [] ?_;refine bB trivial eW [5,6,7,8] [] ?_;refine ah fun K1 aI=>aO [5,6,8,26] [] ?_;refine aD (aO [5,6,8,9] [28] ?_);refine ah fun K2 ak=>aO [5,6,8,9,31] [28] ?_;refine aD (ea (aw _) fun K' ai=>?_);(repeat refine aq fun Kq ae=>?_;simp;(repeat refine⟨aa,?_⟩);refine ae _ ?_);refine aq fun Kq ae=>?_;simp;refine ch.kU (iT) bq (by first | exact D.aV _ | simp[aL,IS,AT,D.le,D.le.go,D.le_refl,D.aV]) (by simp[D.scalar]) ?_;refine ae _ ?_;simp only[aR,cw];(repeat refine aq fun Kq ae=>?_;simp;(repeat refine⟨aa,?_⟩);refine ae _ ?_);refine aZ (ai _ ?_);refine ak _ (AW.norm [5,6,8,9] [28,33] aT (AW.st bq ?_));refine ah fun K3 bF=>?_;have qf:=@hk;refine aC [5,6,8,9,54] [28,33] ?_;refine aj (ax (bF _ ?_));refine aO [5,6,9] [28,33] ?_;refine bB trivial eY [5,9,10,11] [28,33] ?_;refine ah fun K4 cF=>af acY [5,9,10,11,12,13] [28,33] ?_;refine aO [5,9,10,11,12,75] [28,33] ?_;refine aj (ax (cF _ ?_));refine ah fun K5 cI=>aO [5,9,10,11,92] [28,33] ?_;refine aj (ax (cI _ ?_));refine aO [9] [28,33] ?_;refine aO [2,3,4] [28,33] ?_;refine fF 28 ?_;exact kr
  | a :: b :: c :: l,eW,mQ=>
   have n1:¬ ((a :: b :: c :: l).length:Int)=2:=by simp only[aa9];omega
   have n2:¬ ((a :: b :: c :: l).length:Int)=1:=by simp only[aa9];omega
   show aH _ _ _ _ (cQ .form);simp only[cQ];generalize a :: b :: c :: l=ws at eW mQ n1 n2;refine aH.aU (aw _) func180 rfl rfl (rs:=[.tmp 2,.tmp 3,.tmp 4]) results180 (by simp[ntmps180]) fun X=>?_;simp only[ntmps180,List.map];refine aO [0] [] ?_;have qf:=@qE;refine eC l7 [5,6,7] [] ?_;refine bB trivial eW [5,6,7,8] [] ?_;refine ah fun K1 aI=>aO [5,6,8,26] [] ?_;refine aD (aO [5,6,8,9] [28] ?_);refine ah fun K2 ak=>?_;have qf:=(Aq @n1 @n2);refine aC [5,6,8,9,31] [28] ?_;refine aj (ax ?_);refine ak _ (AW.norm [5,6,8,9] [28] aT (AW.st bq ?_));refine ah fun K3 bF=>?_;have qf:=(Aq @n1 @n2);refine aC [5,6,8,9,54] [28] ?_;refine aD (aO [2,3,4] [28] ?_);exact kr
 .have ka:fY s=jX (gx s):=by unfold fY;rw[if_neg sK]
  rw[ka];simp only[sK,if_false,decide_false]at l7;have eW:=IY G s aa;have mQ:=CV s;have FB:=fun x=>CW (t:=s) (w:=x);generalize nI:gx s=ws at eW mQ FB h0 ⊢;obtain⟨a,l,rfl⟩:∃ a l,ws=a :: l:=List.exists_cons_of_ne_nil h0;show aH _ _ _ _ (cQ (fP (iP qD a) l));have iT:=Bn qD a bh;have ov:=BL qD a;have Jw:iP qD a < 5:=ov.2;generalize iP qD a=k at iT Jw ⊢
  have uC:((a :: l).length:Int)=(l.length:Int)+1:=al
  simp only[dS]at l7 eW iT ⊢;refine aH.aU (aw _) func180 rfl rfl (rs:=[.tmp 2,.tmp 3,.tmp 4]) results180 (by simp[ntmps180]) fun X=>?_;simp only[ntmps180,List.map];refine aO [0] [] ?_;have qf:=@qE;refine eC l7 [5,6,7] [] ?_;refine bB trivial eW [5,6,7,8] [] ?_;refine ah fun K1 aI=>aO [5,6,8,26] [] ?_;refine aj (ax (aI _ ?_));refine rg [8,14] [106] aT fun K' ai=>?_;(repeat refine aq fun Kq ae=>?_;simp;(repeat refine⟨aa,?_⟩);refine ae _ ?_);refine aq fun Kq ae=>?_;simp;refine ch.kU (iT) bq (by first | exact D.aV _ | simp[aL,IS,AT,D.le,D.le.go,D.le_refl,D.aV]) (by simp[D.scalar]) ?_;refine ae _ ?_;simp only[aR,cw];(repeat refine aq fun Kq ae=>?_;simp;(repeat refine⟨aa,?_⟩);refine ae _ ?_);refine aZ (ai _ (AW.st bq ?_));refine ah fun K6 fN=>?_;by_cases hk:k < 1
  .have hF:fP k l = .form:=by
    match l with
    | []=>rfl
    | [b]=>rw[fP,if_neg aa]
    | [b,c]=>rw[fP,if_neg aa]
    | b :: c :: d :: l=>rfl
   rw[hF];simp only[cQ];have qf:=@hk;refine aC [8,14,120] [106] ?_;refine aD (aO [2,3,4] [106] ?_);exact kr
  have R6:k=1\/k=2\/k=3\/k=4:=aa
  rcases R6 with rfl | rfl | rfl | rfl
  .by_cases hl:l.length=1
   .obtain⟨b,rfl⟩:∃ b,l=[b]:=abw.1 hl;have hF:fP 1 [b] = .name ⟨b,1,0⟩:=rfl;have qf:=ade;refine aC [8,14,120] [106] ?_;refine aj (ax (fN _ ?_));refine aO [8,14,15] [106,127] ?_;refine ah fun K7 eF=>aO [8,15,129] [106,127] ?_;refine aj (ax ?_);refine eF _ (AW.norm [15] [106,127] aT (AW.st bq ?_));refine aO [2,3,4] [106,127] ?_;refine fF 127 ?_;exact bg (Aq @hF ac1)
   .have hF:fP 1 l = .form:=by
     match l,hl with
     | [],_=>rfl
     | [b],hl=>simp at hl
     | [b,c],_=>rw[fP,if_neg aa]
     | b :: c :: d :: l,_=>rfl
    rw[hF];simp only[cQ]
    have hn:¬ (l.length:Int)=1:=aa
    have kQ:¬ (l.length:Int)+1=2:=aa
    have qf:=(Aq @hn (Aq @kQ (Aq @uC ade)));refine aC [8,14,120] [106] ?_;refine aD (aO [2,3,4] [106] ?_);exact kr
  .by_cases hl:l.length=1
   .obtain⟨b,rfl⟩:∃ b,l=[b]:=abw.1 hl;have hF:fP 2 [b] = .name ⟨b,2,0⟩:=rfl;have qf:=ade;refine aC [8,14,120] [106] ?_;refine aj (ax (fN _ ?_));refine aO [8,14,15] [106,127] ?_;refine ah fun K7 eF=>aO [8,15,129] [106,127] ?_;refine aj (ax ?_);refine eF _ (AW.norm [15] [106,127] aT (AW.st bq ?_));refine aO [2,3,4] [106,127] ?_;refine fF 127 ?_;exact bg (Aq @hF ac1)
   .have hF:fP 2 l = .form:=by
     match l,hl with
     | [],_=>rfl
     | [b],hl=>simp at hl
     | [b,c],_=>rw[fP,if_neg aa]
     | b :: c :: d :: l,_=>rfl
    rw[hF];simp only[cQ]
    have hn:¬ (l.length:Int)=1:=aa
    have kQ:¬ (l.length:Int)+1=2:=aa
    have qf:=(Aq @hn (Aq @kQ (Aq @uC ade)));refine aC [8,14,120] [106] ?_;refine aD (aO [2,3,4] [106] ?_);exact kr
  .by_cases hl:l.length=2
   .obtain⟨b,c,rfl⟩:∃ b c,l=[b,c]:=by
     match l,hl with
     | [b,c],_=>exact⟨b,c,rfl⟩
    have e6:c.length < 2^40:=by have:=(FB c al).2;omega
    have df:=H9 G hE c e6;have dw:fP 3 [b,c]=(match tn c with | some v=>.name ⟨b,3,v⟩ | none=>.form):=rfl;unfold tn at dw
    unfold tZ at df
    simp only[dS]at df
    have qf:=ade;refine aC [8,14,120] [106] ?_;refine aj (ax (fN _ ?_));refine aO [8,14,15] [106,127] ?_;refine ah fun K7 eF=>aO [8,15,129] [106,127] ?_;refine aD ?_
    cases hn:Lib.atoiAll c with
    | ok v=>
     rw[hn]at df dw;dsimp only at df dw;obtain⟨v0,v1⟩:=Lib.atoiAll_bounds hn;have hit:=KE G hP v v0 v1;simp only[dS]at hit;generalize Lib.itoa v=iv at hit dw;refine bB trivial df [8,15,16,17] [106,127] ?_;refine ah fun K8 eg=>?_;by_cases hc:iv=c
     .rw[if_pos hc]at dw;subst hc;refine lZ (aw _) ag [15,16,146] [106,127] aT ag fun K' ai=>?_;(repeat refine fm fun Kq ae=>?_;simp[ay,aJ];(repeat refine⟨aa,?_⟩);refine ae _ ?_);refine fm fun Kq ae=>?_;simp[ay,aJ];refine lC.data (hit) bq bq (by first | exact D.aV _ | simp[aL,IS,AT,D.le,D.le.go,D.le_refl,D.aV,ay,aJ]) ?_;refine ae _ ?_;simp only[aR,cw];(repeat refine fm fun Kq ae=>?_;simp[ay,aJ];(repeat refine⟨aa,?_⟩);refine ae _ ?_);refine kW (ai _ ?_);refine AW.st (by simp[ay,aJ];rfl) ?_;refine aj (ax (eg _ ?_));refine fc trivial eF [15] [106,127] ?_;refine aO [2,3,4] [106,127] ?_;refine fF 127 ?_;exact bg (Aq @dw ac1)
     .rw[if_neg hc]at dw;refine lZ (aw _) ag [15,16,146] [106,127] aT ag fun K' ai=>?_;(repeat refine fm fun Kq ae=>?_;simp[ay,aJ,hc];(repeat refine⟨aa,?_⟩);refine ae _ ?_);refine fm fun Kq ae=>?_;simp[ay,aJ,hc];refine lC.data (hit) bq bq (by first | exact D.aV _ | simp[aL,IS,AT,D.le,D.le.go,D.le_refl,D.aV,ay,aJ,hc]) ?_;refine ae _ ?_;simp only[aR,cw];(repeat refine fm fun Kq ae=>?_;simp[ay,aJ,hc];(repeat refine⟨aa,?_⟩);refine ae _ ?_);refine kW (ai _ ?_);refine AW.st (by simp[ay,aJ,hc];rfl) ?_;refine eJ (by simp[hc]) (aO [2,3,4] [106,127] ?_);exact bg (Aq @dw ac0)
    | range=>
     rw[hn]at df dw;dsimp only[ri]at df dw;refine bB trivial df [8,15,16,17] [106,127] ?_;refine ah fun K8 eg=>Cn trivial [15,16,146] [106,127] ?_;refine aD (aO [2,3,4] [106,127] ?_);exact bg (Aq @dw ac0)
    | _=>
     rw[hn]at df dw;dsimp only[ri]at df dw;refine bB trivial df [8,15,16,17] [106,127] ?_;refine ah fun K8 eg=>Cn trivial [15,16,146] [106,127] ?_;refine aD (aO [2,3,4] [106,127] ?_);exact bg (Aq @dw ac0)
   .have hF:fP 3 l = .form:=by
     match l,hl with
     | [],_=>rfl
     | [b],_=>rw[fP,if_neg aa]
     | [b,c],hl=>simp at hl
     | b :: c :: d :: l,_=>rfl
    rw[hF];simp only[cQ]
    have hn:¬ (l.length:Int)=2:=aa
    have kQ:¬ (l.length:Int)+1=3:=aa
    have qf:=(Aq @hn (Aq @kQ (Aq @uC ade)));refine aC [8,14,120] [106] ?_;refine aD (aO [2,3,4] [106] ?_);exact kr
  .by_cases hl:l.length=2
   .obtain⟨b,c,rfl⟩:∃ b c,l=[b,c]:=by
     match l,hl with
     | [b,c],_=>exact⟨b,c,rfl⟩
    have e6:c.length < 2^40:=by have:=(FB c al).2;omega
    have df:=H9 G hE c e6;have dw:fP 4 [b,c]=(match tn c with | some v=>.name ⟨b,4,v⟩ | none=>.form):=rfl;unfold tn at dw
    unfold tZ at df
    simp only[dS]at df
    have qf:=ade;refine aC [8,14,120] [106] ?_;refine aj (ax (fN _ ?_));refine aO [8,14,15] [106,127] ?_;refine ah fun K7 eF=>aO [8,15,129] [106,127] ?_;refine aD ?_
    cases hn:Lib.atoiAll c with
    | ok v=>
     rw[hn]at df dw;dsimp only at df dw;obtain⟨v0,v1⟩:=Lib.atoiAll_bounds hn;have hit:=KE G hP v v0 v1;simp only[dS]at hit;generalize Lib.itoa v=iv at hit dw;refine bB trivial df [8,15,16,17] [106,127] ?_;refine ah fun K8 eg=>?_;by_cases hc:iv=c
     .rw[if_pos hc]at dw;subst hc;refine lZ (aw _) ag [15,16,146] [106,127] aT ag fun K' ai=>?_;(repeat refine fm fun Kq ae=>?_;simp[ay,aJ];(repeat refine⟨aa,?_⟩);refine ae _ ?_);refine fm fun Kq ae=>?_;simp[ay,aJ];refine lC.data (hit) bq bq (by first | exact D.aV _ | simp[aL,IS,AT,D.le,D.le.go,D.le_refl,D.aV,ay,aJ]) ?_;refine ae _ ?_;simp only[aR,cw];(repeat refine fm fun Kq ae=>?_;simp[ay,aJ];(repeat refine⟨aa,?_⟩);refine ae _ ?_);refine kW (ai _ ?_);refine AW.st (by simp[ay,aJ];rfl) ?_;refine aj (ax (eg _ ?_));refine fc trivial eF [15] [106,127] ?_;refine aO [2,3,4] [106,127] ?_;refine fF 127 ?_;exact bg (Aq @dw ac1)
     .rw[if_neg hc]at dw;refine lZ (aw _) ag [15,16,146] [106,127] aT ag fun K' ai=>?_;(repeat refine fm fun Kq ae=>?_;simp[ay,aJ,hc];(repeat refine⟨aa,?_⟩);refine ae _ ?_);refine fm fun Kq ae=>?_;simp[ay,aJ,hc];refine lC.data (hit) bq bq (by first | exact D.aV _ | simp[aL,IS,AT,D.le,D.le.go,D.le_refl,D.aV,ay,aJ,hc]) ?_;refine ae _ ?_;simp only[aR,cw];(repeat refine fm fun Kq ae=>?_;simp[ay,aJ,hc];(repeat refine⟨aa,?_⟩);refine ae _ ?_);refine kW (ai _ ?_);refine AW.st (by simp[ay,aJ,hc];rfl) ?_;refine eJ (by simp[hc]) (aO [2,3,4] [106,127] ?_);exact bg (Aq @dw ac0)
    | range=>
     rw[hn]at df dw;dsimp only[ri]at df dw;refine bB trivial df [8,15,16,17] [106,127] ?_;refine ah fun K8 eg=>Cn trivial [15,16,146] [106,127] ?_;refine aD (aO [2,3,4] [106,127] ?_);exact bg (Aq @dw ac0)
    | _=>
     rw[hn]at df dw;dsimp only[ri]at df dw;refine bB trivial df [8,15,16,17] [106,127] ?_;refine ah fun K8 eg=>Cn trivial [15,16,146] [106,127] ?_;refine aD (aO [2,3,4] [106,127] ?_);exact bg (Aq @dw ac0)
   .have hF:fP 4 l = .form:=by
     match l,hl with
     | [],_=>rfl
     | [b],_=>rw[fP,if_neg aa]
     | [b,c],hl=>simp at hl
     | b :: c :: d :: l,_=>rfl
    rw[hF];simp only[cQ]
    have hn:¬ (l.length:Int)=2:=aa
    have kQ:¬ (l.length:Int)+1=3:=aa
    have qf:=(Aq @hn (Aq @kQ (Aq @uC ade)));refine aC [8,14,120] [106] ?_;refine aD (aO [2,3,4] [106] ?_);exact kr
end Go.Proofs.YtoohljflflnbeaaGreatDoor
namespace Go.Av
section
variable {P:Program} {T:Ty} {Mv X:Nat->Prop} {G:aF} {N:Fr} {w w':World} {μ:Mu} {a:Act} {σ:St} {ops:Array Oper} {db:List Nat} {fp:List (Nat×Nat)}
def tT (P:Program) (T:Ty) (Mv:Nat->Prop) (G:aF) (N:Fr) (db:List Nat) (fp:List (Nat×Nat)) (i:Nat) (o:Oper) (σ aP:St):Prop:=
 l3 P T Mv G N db i o σ aP/\(db.contains i=false->ph G fp σ.env i o.op)
theorem l3.env {i:Nat} {o:Oper} {σ aP:St} (h:l3 P T Mv G N db i o σ aP):∃ v,aP.env=aR σ.env o.dst v:=by
 rcases h.2.2 with⟨_,c,y,_,_,rfl⟩ | ⟨_,_,x,H',_,rfl⟩
 .exact⟨_,rfl⟩
 .exact⟨_,rfl⟩
def xC (db:List Nat) (fp:List (Nat×Nat)) (ops:Array Oper) (i j:Nat) (oi oj:Oper):Bool:=vB db ops i j oi oj || (!db.contains i && !db.contains j && oi.apart ops oj && wK oi.op && wK oj.op && match fp.lookup i,fp.lookup j with
 | some r,some r'=>!(r == r')
 | _,_=>false)
theorem VK {i j:Nat} {oi oj:Oper} (hc:xC db fp ops i j oi oj=true) {σ bz gV:St} (h1:tT P T Mv G N db fp i oi σ bz) (h2:tT P T Mv G N db fp j oj bz gV) :
  ∃ jx,tT P T Mv G N db fp j oj σ jx/\tT P T Mv G N db fp i oi jx gV:=by
 obtain⟨s1,t1⟩:=h1;obtain⟨s2,t2⟩:=h2
 have gL:oi.apart ops oj=true:=by
  simp only[xC,vB,abD,OF]at hc
  rcases hc with hc | hc
  .exact hc.1
  .exact hc.1.1.1.2
 have iq:∀ v,im oj.op (aR σ.env oi.dst v) σ.env:=fun v t ht=>(j0 gL (e:=σ.env) (v:=v)).1 t (lh ht);have jM:∀ v,im oi.op σ.env (aR σ.env oj.dst v):=fun v t ht=>((j0 gL (e:=σ.env) (v:=v)).2.1 t (lh ht)).symm;have bw:=(j0 gL (e:=σ.env) (v:=dA)).2.2;obtain⟨v1,sG⟩:=s1.env
 have main:∃ jx,l3 P T Mv G N db j oj σ jx/\l3 P T Mv G N db i oi jx gV:=by
  simp only[xC,abD]at hc
  rcases hc with hc | hc
  .exact I1 hc s1 s2
  .simp only[OF,Bool.not_eq_true']at hc;obtain⟨⟨⟨⟨⟨bi,bj⟩,_⟩,li⟩,lj⟩,uq⟩:=hc;have Nd:=t1 bi;have Hb:=t2 bj
   cases ck:fp.lookup i with
   | none=>simp[ck]at uq
   | some r=>
    cases uo:fp.lookup j with
    | none=>simp[ck,uo]at uq
    | some r'=>
     have hr:r≠r':=by simpa[ck,uo]using uq
     obtain⟨di,gi,s1⟩:=s1;obtain⟨dj,gj,s2⟩:=s2
     rcases s1 with⟨b,_⟩ | ⟨_,k1,x,H',e1,rfl⟩
     .rw[bi]at b;cases b
     rcases s2 with⟨b,_⟩ | ⟨_,k2,z,H2,e2,rfl⟩
     .rw[bj]at b;cases b
     dsimp only at e2 Hb sG;simp only[ph,ck]at Nd;simp only[ph,uo]at Hb;obtain⟨u,rfl,F9⟩:=e1.CK Nd;have e2:=e2.congr k2 (iq _);obtain⟨u',rfl,Ga⟩:=e2.CK (Gy (iq _) Hb);refine⟨⟨aR σ.env oj.dst z,lq σ.H r' u'⟩,⟨dj,gj,.inr ⟨bj,k2,z,lq σ.H r' u',Ga σ.H (Ck (H:=σ.H) (u:=u) (abY hr)).symm,rfl⟩⟩,di,gi,.inr ⟨bi,k1,x,lq (lq σ.H r' u') r u,(F9 (lq σ.H r' u') (Ck hr)).congr k1 (jM _),?_⟩⟩;rw[Ma hr,kV bw]
 obtain⟨jx,f1,f2⟩:=main;obtain⟨v3,xH⟩:=f1.env;refine⟨jx,⟨f1,fun hb=>?_⟩,f2,fun hb=>?_⟩
 .have h:=t2 hb;rw[sG]at h;exact CL (iq _) h
 .rw[xH];exact CL (jM _) (t1 hb)
def ML (P:Program) (T:Ty) (Mv:Nat->Prop) (G:aF) (N:Fr) (db:List Nat) (fp:List (Nat×Nat)) (ops:Array Oper):List Nat->St->St->Prop:=nd (tT P T Mv G N db fp) ops
def LF (db:List Nat) (fp:List (Nat×Nat)) (ord:List Nat) (ops:Array Oper):Bool:=p4 (xC db fp ops) ord ops
def CD (P:Program) (T:Ty) (Mv:Nat->Prop) (G:aF) (N:Fr) (db:List Nat) (fp:List (Nat×Nat)) (i:Nat) (o:Oper) (σ:St) (K:St->Prop):Prop:=iy N o/\o.guard=none/\
 if db.contains i=true then (match nu T G σ.env o with
  | some (c,y)=>c/\K ⟨aR σ.env o.dst (.d y),σ.H⟩
  | none=>False)
 else ph G fp σ.env i o.op/\kindOf o.op≠9/\match eH o.op with
  | some c=>mw P G c σ.env o.dst σ.H [] [] K
  | none=>tw T G Mv o σ [] K
def sf (P:Program) (T:Ty) (Mv:Nat->Prop) (G:aF) (N:Fr) (db:List Nat) (fp:List (Nat×Nat)) (K:St->Prop):List (Nat×Oper)->St->Prop
 | [],σ=>K σ
 | (i,o) :: rest,σ=>CD P T Mv G N db fp i o σ (sf P T Mv G N db fp K rest)
theorem YI {K:St->Prop}:∀ (l:List Nat) (σ:St),(∀ i∈l,i < ops.size)->sf P T Mv G N db fp K (dZ ops l) σ->∃ c6,K c6/\ML P T Mv G N db fp ops l σ c6:=by
 intro l
 induction l with
 | nil=>intro σ _ h;exact⟨σ,h,rfl⟩
 | cons i l ih=>
  intro σ hl h;have hi:=hl i al
  have ho:ops[i]? = some ops[i]:=by simp[hi]
  simp only[dZ,ho]at h;generalize ops[i]=o at ho h;simp only[sf,CD]at h;obtain⟨hd,gg,h⟩:=h
  have fin:∀ bz,tT P T Mv G N db fp i o σ bz->sf P T Mv G N db fp K (dZ ops l) bz->∃ c6,K c6/\ML P T Mv G N db fp ops (i :: l) σ c6:=fun bz hs h1=>by
   obtain⟨c6,hk,hr⟩:=ih bz (fun j hj=>hl j (by simp[hj])) h1;exact⟨c6,hk,o,ho,bz,hs,hr⟩
  split at h
  .rename_i hb;split at h
   .rename_i c y hw;obtain⟨hc,h⟩:=h;exact fin _ ⟨⟨hd,gg,.inl ⟨hb,c,y,hw,hc,rfl⟩⟩,fun e=>by rw[hb]at e;cases e⟩ h
   .exact h.elim
  .rename_i hb
   have hb:db.contains i=false:=by simpa using hb
   obtain⟨jF,hk,h⟩:=h;split at h
   .rename_i c hc;obtain⟨y,g,ds,ht,hp,iU,h⟩:=h;refine fin _ ⟨⟨hd,gg,.inr ⟨hb,hk,.d y,σ.H,?_,rfl⟩⟩,fun _=>jF⟩ h;unfold Ex;simp only[hc];exact⟨y,⟨g,_,ht,.inl ⟨ds,rfl,hp⟩⟩,rfl,trivial⟩
   .rename_i hc;unfold tw at h;split at h
    .rename_i hw;split at h
     .rename_i c x bz h1;obtain⟨cA,iU,h⟩:=h;have he:=zT hk h1;obtain⟨e,H⟩:=σ;obtain⟨e1,H1⟩:=bz;dsimp only at he;subst he;refine fin _ ⟨⟨hd,gg,.inr ⟨hb,hk,x,H1,?_,rfl⟩⟩,fun _=>jF⟩ h;unfold Ex;simp only[hc];rw[if_pos hw];exact⟨c,h1,cA⟩
     .exact h.elim
    .rename_i hw;split at h
     .rename_i c x h1;obtain⟨cA,iU,h⟩:=h;refine fin _ ⟨⟨hd,gg,.inr ⟨hb,hk,x,σ.H,?_,rfl⟩⟩,fun _=>jF⟩ h;unfold Ex;simp only[hc];rw[if_neg hw];exact⟨c,h1,cA,trivial⟩
     .exact h.elim
theorem NU (hg:Good P T) (hm:P.follows .mixedOrders=true) (db:List Nat) (fp:List (Nat×Nat)) (ord:List Nat) {id:Nat} (cG:LF db fp ord ops=true) {Q:Exit->St->Prop} {σ:St} (h:sf P T Mv G N db fp (fun aP=>Q .normal aP) (dZ ops ord) σ):AW P Mv X G N (.region id ops true) Q σ:=xk (Step:=tT P T Mv G N db fp) (cp:=xC db fp ops) hm (fun i o ho σ aP h w μ a hi _ _ hk=>l3.ok hg h.1 hi ho hk) (fun i j oi oj _ _ hc σ bz gV h1 h2=>VK hc h1 h2) ord cG fun bf=>YI ord σ bf h
theorem CZ (hg:Good P T) (hm:P.follows .mixedOrders=true) (db:List Nat) (fp:List (Nat×Nat)) (ord:List Nat) (l ns:List Nat) (hM:∀ r,ns.contains r=false->Mv r) {id:Nat} (cG:LF db fp ord ops=true) {y:Code} {Q:Exit->St->Prop} {σ:St}
  (h:∀ K:St->Prop,(∀ τ:St,AW P Mv X G N y Q (τ.norm l ns)->K τ)->sf P T Mv G N db fp K (dZ ops ord) σ):AW P Mv X G N (.seq (.region id ops true) y) Q σ:=
 qT (NU hg hm db fp ord cG (h _ fun _ h=>h.norm l ns hM))
theorem G7 {K:St->Prop} {i:Nat} {l:List Nat} {o:Oper} (ho:ops[i]? = some o) (h:∀ K':St->Prop,(∀ τ,sf P T Mv G N db fp K (dZ ops l) τ->K' τ)->CD P T Mv G N db fp i o σ K'):sf P T Mv G N db fp K (dZ ops (i :: l)) σ:=by
 have:dZ ops (i :: l)=(i,o) :: dZ ops l:=by simp[dZ,ho]
 rw[this];exact h _ fun _ h=>h
theorem G8 {K:St->Prop} (h:K σ):sf P T Mv G N db fp K (dZ ops []) σ:=h
end
attribute [simp] CD
