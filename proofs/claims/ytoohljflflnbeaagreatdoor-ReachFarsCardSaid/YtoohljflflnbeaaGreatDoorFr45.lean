/- Parts. -/
import Derived.Test.YtoohljflflnbeaaGreatDoorFr44
set_option linter.unusedSectionVars false
set_option linter.unusedSimpArgs false
set_option linter.unusedVariables false
set_option maxHeartbeats 32000000
set_option maxRecDepth 100000
open Go.Proofs.Tryz
namespace Go.Proofs.YtoohljflflnbeaaGreatDoor
open Go.Av
def rW (F:List Int) (d s i u j:Nat):Prop:=F.getD u 0=(d:Int)/\(u < s\/(u=s/\j < i))
structure j1 (NX:List (List Int)) (F:List Int) (q:Nat->List Int) (d s i:Nat):Prop where
 low:∀ t,t < NX.length->0 < F.getD t 0->F.getD t 0<=d->q t=ek NX t (F.getD t 0).toNat 0
 high:∀ t,t < NX.length->(F.getD t 0 < 0\/(d:Int)+1 < F.getD t 0)->q t=[]
 mid:∀ t,t < NX.length->F.getD t 0=(d:Int)+1->(q t=[]/\∀ u j (h:u < NX.length) (hj:j < NX[u].length),rW F d s i u j->NX[u][j]≠(t:Int))\/
  (∃ u j,∃ h:u < NX.length,∃ hj:j < NX[u].length,rW F d s i u j/\NX[u][j]=(t:Int)/\q t=ek NX u d 0 ++ [(j:Int)]/\∀ u' j' (h':u' < NX.length) (c6:j' < NX[u'].length),rW F d s i u' j'->NX[u'][j']=(t:Int)->gk (ek NX u' d 0 ++ [(j':Int)]) (q t)=false)
theorem adI {NX:List (List Int)} {F:List Int}:j1 NX F (fun _=>[]) 0 0 0:=
 ⟨fun t _ h0 h1=>absurd h0 aa,fun _ _ _=>rfl,fun t _ _=>.inl ⟨rfl,fun u j _ _ hs=>by
  rcases hs.2 with h | ⟨_,h⟩<;>omega⟩⟩
theorem S5 {NX:List (List Int)} {F:List Int} {q:Nat->List Int} {d s i s' i':Nat} (h:j1 NX F q d s i) (he:∀ u j (h:u < NX.length) (hj:j < NX[u].length),rW F d s i u j↔rW F d s' i' u j):j1 NX F q d s' i':=
 ⟨h.low,h.high,fun t ht hd=>by
  rcases h.mid t ht hd with⟨g1,g2⟩ | ⟨u,j,hu,hj,g1,g2,g3,g4⟩
  .exact .inl ⟨g1,fun u j hu hj hs=>g2 u j hu hj ((he u j hu hj).2 hs)⟩
  .exact .inr ⟨u,j,hu,hj,(he u j hu hj).1 g1,g2,g3,fun u' j' ir c6 hs=>g4 u' j' ir c6 ((he u' j' ir c6).2 hs)⟩⟩
theorem adH {NX:List (List Int)} {F:List Int} {q:Nat->List Int} {d s:Nat} (h:j1 NX F q d s 0) (hd:F.getD s 0≠(d:Int)):j1 NX F q d (s+1) 0:=
 S5 h fun u j _ _=>by
  unfold rW;constructor
  .rintro⟨h1,h2 | ⟨_,h2⟩⟩
   .exact⟨h1,.inl aa⟩
   .omega
  .rintro⟨h1,h2 | ⟨_,h2⟩⟩
   .by_cases e:u=s
    .subst e;exact absurd h1 hd
    .exact⟨h1,.inl aa⟩
   .omega
theorem adG {NX:List (List Int)} {F:List Int} {q:Nat->List Int} {d s:Nat} (hs:s < NX.length) (h:j1 NX F q d s NX[s].length):j1 NX F q d (s+1) 0:=
 S5 h fun u j hu hj=>by
  unfold rW;constructor
  .rintro⟨h1,h2 | ⟨h2,_⟩⟩
   .exact⟨h1,.inl aa⟩
   .exact⟨h1,.inl aa⟩
  .rintro⟨h1,h2 | ⟨_,h2⟩⟩
   .by_cases e:u=s
    .subst e;exact⟨h1,.inr ⟨rfl,hj⟩⟩
    .exact⟨h1,.inl aa⟩
   .omega
theorem y8 {F:List Int} {d s i u j:Nat} (h:rW F d s (i+1) u j):rW F d s i u j\/(u=s/\j=i):=by
 obtain⟨h1,h2 | ⟨h2,h3⟩⟩:=h
 .exact .inl ⟨h1,.inl h2⟩
 .by_cases e:j=i
  .exact .inr ⟨h2,e⟩
  .exact .inl ⟨h1,.inr ⟨h2,aa⟩⟩
theorem MU {F:List Int} {d s i u j:Nat} (h:rW F d s i u j):rW F d s (i+1) u j:=by
 obtain⟨h1,h2 | ⟨h2,h3⟩⟩:=h
 .exact⟨h1,.inl h2⟩
 .exact⟨h1,.inr ⟨h2,aa⟩⟩
theorem adF {NX:List (List Int)} {F:List Int} {q:Nat->List Int} {d s i t:Nat} (h:j1 NX F q d s i) (hs:s < NX.length) (hi:i < NX[s].length) (ht:NX[s][i]=(t:Int)) (hd:F.getD t 0≠(d:Int)+1):j1 NX F q d s (i+1):=
 ⟨h.low,h.high,fun z hz yJ=>by
  have Gp:z≠t:=fun e=>by subst e;exact hd yJ
  rcases h.mid z hz yJ with⟨g1,g2⟩ | ⟨u,j,hu,hj,g1,g2,g3,g4⟩
  .refine .inl ⟨g1,fun u j hu hj fQ=>?_⟩
   rcases y8 fQ with fQ | ⟨rfl,rfl⟩
   .exact g2 u j hu hj fQ
   .rw[ht];omega
  .refine .inr ⟨u,j,hu,hj,MU g1,g2,g3,fun u' j' ir c6 fQ he=>?_⟩
   rcases y8 fQ with fQ | ⟨rfl,rfl⟩
   .exact g4 u' j' ir c6 fQ he
   .rw[ht]at he;omega⟩
theorem adC {NX:List (List Int)} {F:List Int} {q:Nat->List Int} {d s i t:Nat} (h:j1 NX F q d s i) (hs:s < NX.length) (hi:i < NX[s].length) (ht:NX[s][i]=(t:Int)) (hn:q t≠[]) (hb:gk (ek NX s d 0 ++ [(i:Int)]) (q t)=false):j1 NX F q d s (i+1):=
 ⟨h.low,h.high,fun z hz yJ=>by
  rcases h.mid z hz yJ with⟨g1,g2⟩ | ⟨u,j,hu,hj,g1,g2,g3,g4⟩
  .refine .inl ⟨g1,fun u j hu hj fQ=>?_⟩
   rcases y8 fQ with fQ | ⟨rfl,rfl⟩
   .exact g2 u j hu hj fQ
   .rw[ht];intro e
    obtain rfl:t=z:=aa
    exact hn g1
  .refine .inr ⟨u,j,hu,hj,MU g1,g2,g3,fun u' j' ir c6 fQ he=>?_⟩
   rcases y8 fQ with fQ | ⟨rfl,rfl⟩
   .exact g4 u' j' ir c6 fQ he
   .rw[ht]at he
    obtain rfl:t=z:=aa
    exact hb⟩
theorem Oc:∀ {a b:List Int},gk a b=true->gk b a=false
 | [],[],h=>by cases h
 | [],_ :: _,h=>by cases h
 | _ :: _,[],h=>by cases h
 | a :: l,b :: m,h=>by
  rw[gk]at h ⊢;by_cases e:a=b
  .subst e;rw[if_pos rfl]at h ⊢;exact Oc h
  .rw[if_neg e]at h;have:=of_decide_eq_true h;rw[if_neg (akI e)];exact decide_eq_false aa
theorem Wr {a b c:List Int} (h1:a.length=b.length) (h2:b.length=c.length) (g1:gk a b=true) (g2:gk c b=false):gk c a=false:=Oe h1 h2 (Oc g1) g2
theorem adD {NX:List (List Int)} {F:List Int} {q:Nat->List Int} {d s i t:Nat} (h:j1 NX F q d s i) (ht:t < NX.length) (hd:F.getD t 0=(d:Int)+1) (hn:q t≠[]):(q t).length=d+1:=by
 rcases h.mid t ht hd with⟨g1,_⟩ | ⟨u,j,_,_,_,_,g,_⟩
 .exact absurd g1 hn
 .rw[g,ajQ,tT];rfl
theorem adJ {NX:List (List Int)} {F:List Int} {q:Nat->List Int} {d s i t:Nat} (h:j1 NX F q d s i) (hs:s < NX.length) (QR:F.getD s 0=(d:Int)) (hi:i < NX[s].length) (ht:NX[s][i]=(t:Int)) (gD:t < NX.length) (hd:F.getD t 0=(d:Int)+1) (hb:q t=[]\/gk (ek NX s d 0 ++ [(i:Int)]) (q t)=true):j1 NX F (fun z=>if z=t then ek NX s d 0 ++ [(i:Int)] else q z) d s (i+1):=
 ⟨fun z hz h0 h1=>by
  have Gp:z≠t:=fun e=>by subst e;omega
  simp only[if_neg Gp]
  exact h.low z hz h0 h1,fun z hz h0=>by
  have Gp:z≠t:=fun e=>by subst e;omega
  simp only[if_neg Gp]
  exact h.high z hz h0,fun z hz yJ=>by
  by_cases e:z=t
  .subst e;rw[if_pos rfl];refine .inr ⟨s,i,hs,hi,⟨QR,.inr ⟨rfl,aa⟩⟩,ht,rfl,fun u' j' ir c6 fQ he=>?_⟩
   rcases y8 fQ with fQ | ⟨rfl,rfl⟩
   .rcases h.mid z hz yJ with⟨g1,g2⟩ | ⟨u,j,hu,hj,g1,g2,g3,g4⟩
    .exact absurd he (g2 u' j' ir c6 fQ)
    .rcases hb with hb | hb
     .rw[hb]at g3;exact absurd g3.symm ak
     .have hq:(q z).length=d+1:=by rw[g3,ajQ,tT];rfl
      exact Wr (b:=q z) (by rw[hq,ajQ,tT];rfl) (by rw[hq,ajQ,tT];rfl) hb (g4 u' j' ir c6 fQ he)
   .exact Od _
  .simp only[if_neg e]
   rcases h.mid z hz yJ with⟨g1,g2⟩ | ⟨u,j,hu,hj,g1,g2,g3,g4⟩
   .refine .inl ⟨g1,fun u j hu hj fQ=>?_⟩
    rcases y8 fQ with fQ | ⟨rfl,rfl⟩
    .exact g2 u j hu hj fQ
    .rw[ht];omega
   .refine .inr ⟨u,j,hu,hj,MU g1,g2,g3,fun u' j' ir c6 fQ he=>?_⟩
    rcases y8 fQ with fQ | ⟨rfl,rfl⟩
    .exact g4 u' j' ir c6 fQ he
    .rw[ht]at he;omega⟩
theorem adE {NX:List (List Int)} (ht:nr NX) {F:List Int} (hF:np NX F) {q:Nat->List Int} {d:Nat} (h:j1 NX F q d NX.length 0):j1 NX F q (d+1) 0 0:=by
 have dA:∀ u j (hu:u < NX.length) (hj:j < NX[u].length),F.getD u 0=(d:Int)->rW F d NX.length 0 u j:=fun u j hu _ hd=>⟨hd,.inl hu⟩
 have lU:∀ t,t < NX.length->F.getD t 0=(d:Int)+1->q t=ek NX t (d+1) 0:=fun t gD hd=>by
  obtain⟨u,i,hu,hi,h1,h2,h3⟩:=ab2 ht hF gD (d:=d) aa
  rcases h.mid t gD hd with⟨_,g2⟩ | ⟨u',j',ir,c6,g1,g2,g3,g4⟩
  .exact absurd h2 (g2 u i hu hi (dA u i hu hi h1))
  .have k1:=g4 u i hu hi (dA u i hu hi h1) h2;rw[<- h3]at k1;have k2:=(ab3 ht hF ir c6 g1.1 g2).2;rw[<- g3]at k2;exact Iw (by rw[g3,ajQ,tT,tT];rfl) k2 k1
 refine⟨fun t gD h0 h1=>?_,fun t gD h0=>h.high t gD aa,fun t gD hd=>.inl ⟨h.high t gD aa,fun u j _ _ hs=>by
  rcases hs.2 with h | ⟨_,h⟩<;>omega⟩⟩
 by_cases e:F.getD t 0<=(d:Int)
 .exact h.low t gD h0 e
 .have e2:F.getD t 0=(d:Int)+1:=aa
  rw[lU t gD e2,e2];rfl
theorem adB {NX:List (List Int)} {F:List Int} (hF:np NX F) {q:Nat->List Int} {d s i u:Nat} (h:j1 NX F q d s i) (hu:u < NX.length) (hd:F.getD u 0=(d:Int)):(u=0->ek NX u d 0=[])/\(u≠0->q u=ek NX u d 0):=by
 refine⟨fun e=>?_,fun e=>?_⟩
 .subst e;rw[hF.zero]at hd
  obtain rfl:d=0:=aa
  rfl
 .have h0:0 < F.getD u 0:=by
   have:=hF.one u hu;by_cases e2:F.getD u 0=0
   .exact absurd (this e2) e
   .omega
  have:=h.low u hu h0 aa;rw[this,hd,ajI]
end Go.Proofs.YtoohljflflnbeaaGreatDoor
namespace Go.Av
section
variable {P:Program} {T:Ty} {Mv X:Nat->Prop} {G:ay} {N:Fr} {w:World} {μ:Mu} {a:Act} {σ:St}
theorem agq (t ty e:TypeId) (i:TypeInfo) (ht:P.underlying t=some (.slice e)) (hi:P.info? e=some i)
  (g off y7 MQ:Nat) (cur:Array Value) (hg:w.heap[g]? = some (.cells cur e (0,0)))
  (a:Addr) (m c:Nat) (news:List Value) (hl:news.length=m * i.size) (KC:∀ j u,news[j]? = some u->w.cell? (a.add j)=some u) (h1:∀ u∈news,u.oneCell'=true)
  (tm:y7+m<=MQ) (kD:off+y7 * i.size+news.length<=cur.size) :
  (Builtin.append_ #[t,t] ty #[.slice (some ⟨g,off,none⟩) y7 MQ,.slice (some a) m c]).run P w =
   .ok (.slice (some ⟨g,off,none⟩) (y7+m) MQ) (w.setRow g (cur.toList.take (off+y7 * i.size) ++ news ++ cur.toList.drop (off+y7 * i.size+news.length)).toArray):=by
 have hf:=run_firstCells_some (P:=P) w i.size m a m c news hl KC;have eL:=run_storeCells_at P g (off+y7 * i.size) e news 0 cur w hg (by simpa using kD) h1;simp only[akD]at eL;simp[Builtin.append_,run_underlying ht,sizeOf,typeInfo,hi,Builtin.lenOf,tm,hf,Addr.add_lit,eL]
theorem V6 (hg:Good P T) (hi:In w X G μ N a σ) {r off n:Nat} (fK:Mv r) {t ty e:TypeId} {tt te:TI} (du:T t=some tt) (dG:tt.desc = .slice e) (cQ:T e=some te) {els news:List (List D)} {u v:Value}
  (hH:σ.H r=some (.sl e te.size els)) (hle:off+n<=els.length) (hu:RV w X μ u (.own r off n)) (hn:sM w X μ te.size v news) (hz:0 < te.size) (rL:(gg te.zero).length=te.size)
  (vZ:n+news.length<=maxLen) (hb:(n+news.length) * te.bytes<=140737488355328) :
  ∃ pre:List (List D),nQ Mv X G N w μ a ((Builtin.append_ #[t,t] ty #[u,v]).run P w) (.own r pre.length (n+news.length)) ⟨ef r σ.env,aY (eg r σ.H) r (.sl e te.size (pre ++ ((els.drop off).take n ++ news)))⟩:=by
 by_cases hU:off=0
 .subst hU;exact⟨[],by simpa using Ik (Mv:=Mv) hg hi fK du dG cQ hH aa hu hn hz rL vZ hb⟩
 obtain⟨m,hm,hh⟩:=hu.lF;obtain⟨m',cF,ok⟩:=hi.bq.rows r _ hH;rw[hm]at cF;obtain rfl:=AI cF;obtain⟨wE,i0,lz,eH,ke,lY,_⟩:=hg e te cQ;have ht:=(hg t tt du).1;rw[dG]at ht;have sA:=zo (w:=w) (X:=XX X μ) te.zero
 have JS:te.zero.cells.size=te.size:=by rw[sA.1,rL]
 rcases hh with⟨_,_,h0,_⟩ | ⟨b,jn,rfl,kC⟩
 .exact absurd h0 hU
 cases ok with
 | nil bk _=>rw[bk]at jn;cases jn
 | sl bk bd oW cO lS gK hl jP hr=>
  rename_i b' cur;rw[jn]at bk;obtain rfl:=AI bk
  have KL:(els.take off).length=off:=by rw[ajW];omega
  have QY:els.take off ++ (els.drop off).take n=els.take (off+n):=by rw[List.take_add]
  have Qz:((els.drop off).take n).length=n:=by rw[ajW,aj5];omega
  have Qy:∀ el∈(els.drop off).take n,el.length=te.size:=fun el ba=>hl el (aks (ajS ba));by_cases bf:news=[]
  .subst bf
   have hv:∃ ad c,v = .slice ad 0 c:=by
    rcases hn.at_ with⟨_,ad,cap,rfl⟩ | ⟨ad,cap,gP,rfl,_⟩
    .exact⟨_,_,rfl⟩
    .exact⟨_,_,rfl⟩
   obtain⟨ad,c,rfl⟩:=hv;refine⟨els.take off,?_⟩;have dw:=T6 (P:=P) (w:=w) (ty:=ty) hg du dG cQ (some ⟨b,off * m.sz,none⟩) ad n (m.cap - off) c aa;rw[dw]
   obtain⟨aO,aW⟩:=hi.move (Mv:=Mv) (w':=w) (m':=m) hm fK (ajJ _) rfl rfl rfl (fun _ _ _=>rfl) (fun b hb=>.inr hb) (row:=.sl e te.size (els.take off ++ ((els.drop off).take n ++ []))) fun ev=>by
    rw[ako,QY];refine .sl jn bd oW cO (by simp;omega) gK (fun el ba=>hl el (ajS ba)) jP fun i j el c ba hc=>?_;rw[ajU]at ba;split at ba
    .obtain⟨v,hv,bY⟩:=hr i j el c ba hc;exact⟨v,hv,bY.ev ev⟩
    .cases ba
   refine⟨_,_,_,rfl,aO,.own (m:=m) (by simp[dY]) ?_,aW⟩;rw[KL];exact .inr ⟨b,jn,rfl,by simpa using kC⟩
  .have KD:0 < news.length:=aky.2 bf
   rcases hn.at_ with⟨h,_⟩ | ⟨ad,cap,gP,rfl,fD,wz,yg,pS⟩
   .exact absurd h bf
   have KT:n+news.length<=9223372036854775807:=by simp only[maxLen]at vZ;omega
   have aaA:(off+n) * te.size<=m.cap * te.size:=aj0 _ kC;rw[aj7]at aaA;by_cases tm:n+news.length<=m.cap - off
   .have kD:off * te.size+n * te.size+gP.length<=cur.size:=by
     rw[fD,cO,<- aj7,<- aj7];exact aj0 _ aa
    have dw:=agq (P:=P) (w:=w) t ty e i0 ht lz b (off * te.size) n (m.cap - off) cur oW ad news.length cap gP (by rw[fD,eH]) wz yg tm (by rw[eH];exact kD);refine⟨els.take off,?_⟩;rw[bd,dw,eH]
    have jt:(cur.toList.take (off * te.size+n * te.size)).length=(off+n) * te.size:=by rw[ajW,aj8,cO,aj7];omega
    have qO:Rel w X μ te.size (cur.toList.take (off * te.size+n * te.size)) (els.take (off+n)):=by
     intro i j el c ba hc;rw[ajU]at ba;split at ba
     .rename_i aO;obtain⟨v,hv,bY⟩:=hr i j el c ba hc;have uX:el.length=te.size:=hl _ (akn ba)
      have hj:j < te.size:=by rw[<- uX];exact (BY.1 hc).1
      refine⟨v,?_,bY⟩;rw[ajU,if_pos]
      .simpa using hv
      .have:(i+1) * te.size<=(off+n) * te.size:=aj0 _ aO;rw[aj7,aj7]at this;omega
     .cases ba
    obtain⟨aO,aW⟩:=hi.move (Mv:=Mv) (w':=w.setRow b (cur.toList.take (off * te.size+n * te.size) ++ gP ++ cur.toList.drop (off * te.size+n * te.size+gP.length)).toArray) (m':=m) hm fK ak rfl rfl rfl
     (fun k hk CU=>setRow_other w b k _ fun e'=>CU (by rw[jn,e'])) (fun b hb=>.inr hb) (row:=.sl e te.size (els.take off ++ ((els.drop off).take n ++ news))) fun ev=>by
      rw[<- akt,QY];refine .sl jn bd (setRow_heap w b cur _ e _ oW) ?_ (by simp;omega) gK (fun el ba=>?_) jP fun i j el c hi hj=>?_
      .simp only[akO,ajQ,ajW,aj5,aj8];omega
      .rcases ajR.1 ba with h | h
       .exact hl el (ajS h)
       .exact hn.len el h
      .obtain⟨v,hv,bY⟩:=((qO.append (by rw[jt,ajW,ali hle]) (fun el ba=>hl el (ajS ba)) pS).more (l':=cur.toList.drop (off * te.size+n * te.size+gP.length))) i j el c hi hj;exact⟨v,by rw[<- ajT];simpa using hv,bY.ev ev⟩
    refine⟨_,_,_,rfl,aO,.own (m:=m) (by simp[dY]) (.inr ⟨b,jn,by rw[KL,bd],by rw[KL];omega⟩),aW⟩
   .have jt:((cur.toList.drop (off * te.size)).take (n * te.size)).length=n * te.size:=by rw[ajW,aj5,aj8,cO];omega
    have qO:Rel w X μ te.size ((cur.toList.drop (off * te.size)).take (n * te.size)) ((els.drop off).take n):=by
     intro i j el c ba hc;rw[ajU]at ba;split at ba
     .rename_i aO;rw[akc]at ba;obtain⟨v,hv,bY⟩:=hr (off+i) j el c ba hc;have uX:el.length=te.size:=hl _ (akn ba)
      have hj:j < te.size:=by rw[<- uX];exact (BY.1 hc).1
      refine⟨v,?_,bY⟩;rw[ajU,if_pos,akc]
      .rw[<- akv,<- aj7];simpa using hv
      .have:(i+1) * te.size<=n * te.size:=aj0 _ aO;rw[aj7]at this;omega
     .cases ba
    have dw:=run_append_grow (P:=P) w t ty e i0 te.zero ht lz lY ⟨b,off * te.size,none⟩ n (m.cap - off) ((cur.toList.drop (off * te.size)).take (n * te.size)) (by rw[jt,eH]) (fun j v hv=>by
     rw[addr_add,cell_of_row w b _ cur e (0,0) oW];rw[ajU]at hv;split at hv
     .rw[akc]at hv;simpa using hv
     .cases hv) ad news.length cap gP (by rw[fD,eH]) wz aa aa (by rw[ke];exact growslice_fits aa hb)
    refine⟨[],?_⟩;rw[bd,dw];have gI:=grownCap_ge w (n+news.length) (m.cap - off) e;have iV:=grownCap_le_maxLen w (n+news.length) (m.cap - off) e vZ;generalize grownCap w (n+news.length) (m.cap - off) e=fS at *;generalize (cur.toList.drop (off * te.size)).take (n * te.size)=xs at *
    have lf:cN w (w.drew.alloc (.cells (xs.toArray ++ gP.toArray ++ Builtin.zeroCells te.zero.cells (fS - (n+news.length))) e)):=by
     have h1:=cN.alloc w.drew (.cells (xs.toArray ++ gP.toArray ++ Builtin.zeroCells te.zero.cells (fS - (n+news.length))) e);exact⟨h1.size,h1.os,h1.tape,h1.output,h1.same⟩
    have rH:(xs.toArray ++ gP.toArray ++ Builtin.zeroCells te.zero.cells (fS - (n+news.length))).size=fS * te.size:=by
     simp only[Array.size_append,akO,size_zeroCells,JS,jt,fD,<- aj7];congr 1;omega
    obtain⟨aO,aW⟩:=hi.move (Mv:=Mv) (w':=w.drew.alloc (.cells (xs.toArray ++ gP.toArray ++ Builtin.zeroCells te.zero.cells (fS - (n+news.length))) e)) (m':=⟨some w.heap.size,te.size,fS⟩) hm fK lf.size lf.os lf.tape lf.output
     (fun k hk _=>lf.same k hk) (fun b hb=>by simp at hb;omega) (row:=.sl e te.size ([] ++ ((els.drop off).take n ++ news))) fun ev=>by
      rw[akM];refine .sl rfl rfl (by simpa using heap_alloc_new w.drew (.cells (xs.toArray ++ gP.toArray ++ Builtin.zeroCells te.zero.cells (fS - (n+news.length))) e)) rH (by rw[ajQ,Qz];omega) iV (fun el ba=>?_) hz fun i j el c hi hj=>?_
      .rcases ajR.1 ba with h | h
       .exact Qy el h
       .exact hn.len el h
      .have hrel:=((qO.append (by rw[jt,Qz]) Qy pS).more (l':=(Builtin.zeroCells te.zero.cells (fS - (n+news.length))).toList)) i j el c hi hj;obtain⟨v,hv,bY⟩:=hrel;refine⟨v,?_,bY.ev ev⟩;rw[<- ajT];simpa using hv
    exact⟨_,_,_,rfl,aO,.own (m:=⟨some w.heap.size,te.size,fS⟩) (by simp[dY]) (.inr ⟨w.heap.size,rfl,ak,by simpa using gI⟩),aW⟩
def Ni (T:Ty) (G:ay) (Mv:Nat->Prop) (σ:St) (o:Oper):Option (Prop×(List (List D)->AV×St)):=match o.op,o.dst with
 | .call { callee:=.builtin .append,args,argTypes },some _=>match args.toList,argTypes.toList with
  | [x,y],[t,t']=>match T t with
   | some tt=>match tt.desc with
    | .slice e=>match T e,bC G σ.env x,bC G σ.env y with
     | some te,some (.own r off n),some v=>match σ.H r,my σ.H r v with
      | some (.sl ty sz els),some news=>some (t=t'/\Mv r/\ty=e/\sz=te.size/\off+n<=els.length/\(∀ el∈news,el.length=te.size)/\(∀ el∈news,∀ c∈el,D.one c=true)/\0 < te.size/\(gg te.zero).length=te.size/\n+news.length<=9223372036854775807/\(n+news.length) * te.bytes<=140737488355328,
        fun pre=>(.own r pre.length (n+news.length),⟨ef r σ.env,aY (eg r σ.H) r (.sl e te.size (pre ++ ((els.drop off).take n ++ news)))⟩))
      | _,_=>none
     | _,_,_=>none
    | _=>none
   | none=>none
  | _,_=>none
 | _,_=>none
def B4 (P:Program) (T:Ty) (Mv X:Nat->Prop) (G:ay) (N:Fr) (o:Oper) (σ:St) (next:St->Prop):Prop:=match Ni T G Mv σ o with
 | some (c,f)=>c/\∀ pre:List (List D),next ⟨aL (f pre).2.env o.dst (f pre).1,(f pre).2.H⟩
 | none=>sV P T Mv X G N o σ next
theorem Ye (hg:Good P T) (hi:In w X G μ N a σ) {o:Oper} {K:St->Prop} (hd:∀ d,o.dst=some d->d < N.n) (h:B4 P T Mv X G N o σ K) {Q:Exit->Act->World->Prop} {next:Act->World->Prop}
  (hk:∀ w' aI a' aG,K aG->In w' X G aI N a' aG->Ev Mv w μ w' aI->next a' w'):o.wpIn (wd N.ro) 0 P a w next Q:=by
 unfold B4 at h;split at h
 .rename_i c f hw;obtain⟨hc,k⟩:=h;obtain⟨op,dst,type,pos,after,guard⟩:=o;unfold Ni at hw;split at hw
  .rename_i args argTypes d jN s4;simp only at jN s4;subst jN s4;refine xf (fun c e=>by cases e) ?_;split at hw
   .rename_i x0 y0 t t' ha ht;have e1:args = #[x0,y0]:=akl.1 ha;have e2:argTypes = #[t,t']:=akl.1 ht;subst e1 e2;split at hw
    .rename_i tt du;split at hw
     .rename_i e dG;split at hw
      .rename_i te r off n v cQ h1 h2;split at hw
       .rename_i ty sz els news hH hn;obtain⟨rfl,rfl⟩:=eh hw;obtain⟨rfl,g1,rfl,rfl,g2,g3,g4,g5,g6,g7,g8⟩:=hc;obtain⟨pre,v',w',aI,hr,aO,gM,aW⟩:=V6 (Mv:=Mv) (ty:=type) hg hi g1 du dG cQ hH g2 (hi.eval h1) (DG hi.bq (hi.eval h2) hn g3 g5 g4) g5 g6 (by unfold maxLen;omega) g8;unfold Oper.wp
        have hx:(execOp a.eval { op:=.call { callee:=.builtin .append,args:=#[x0,y0],argTypes:=#[t,t] },dst:=some d,type:=type,pos:=pos,after:=after,guard:=guard:Oper }).run P w = .ok (.value v') w':=by simp[execOp,resolve,invoke,builtin,hr]
        rw[hx];exact hk _ aI _ _ (k pre) (aO.put gM hd) aW
       .cases hw
      .cases hw
     .cases hw
    .cases hw
   .cases hw
  .cases hw
 .exact E4 hg hi hd h hk
def xe (P:Program) (T:Ty) (Mv X:Nat->Prop) (G:ay) (N:Fr) (ops:Array Oper) (K:St->Prop):List Oper->St->Prop
 | [],σ=>K σ
 | o :: rest,σ=>eI N o/\match jb ops σ.env o with
  | some b=>if b=true then B4 P T Mv X G N o σ (xe P T Mv X G N ops K rest) else xe P T Mv X G N ops K rest ⟨aL σ.env o.dst da,σ.H⟩
  | none=>False
theorem ahk (hg:Good P T) {ops:Array Oper} {Q:Exit->St->Prop} {w0:World} {lh:Mu}:∀ (l:List Oper) (k:Nat) (w:World) (μ:Mu) (a:Act) (σ:St),(∀ j,l[j]? = ops[k+j]?)->xe P T Mv X G N ops (fun aG=>Q .normal aG) l σ->In w X G μ N a σ->Ev Mv w0 lh w μ->
  wpOpsIn (wd N.ro) 0 P ops (After Mv X G N w0 lh Q) (List.range' k l.length) a w:=by
 intro l
 induction l with
 | nil=>intro k w μ a σ _ h hi aW;exact⟨μ,σ,h,hi,aW⟩
 | cons o l ih=>
  intro k w μ a σ hl h hi aW
  have h0:ops[k]? = some o:=by simpa using (hl 0).symm
  have fo:∀ j,l[j]? = ops[k+1+j]?:=fun j=>by have:=hl (j+1);simpa[akv,ala 1 j]using this
  obtain⟨hd,h⟩:=h
  have fm:∀ d,o.dst=some d->d < N.n:=fun d e=>by unfold eI at hd;rw[e]at hd;exact hd
  rw[ajP,alq];simp only[wpOpsIn,h0];split at h
  .rename_i b hb;rw[tS hi hb];split at h
   .rename_i qz;subst qz;rw[if_pos rfl];exact (Ye hg hi fm h fun w' aI a' aG k' aO mb=>ih (k+1) w' aI a' aG fo k' aO (aW.trans mb))
   .rename_i pI;rw[if_neg (by simpa using pI)];exact⟨fun _ _=>trivial,ih (k+1) w μ _ _ fo h (hi.put (.d (.v _)) fm) aW⟩
  .exact h.elim
theorem Vx (hg:Good P T) {id:Nat} {ops:Array Oper} {Q:Exit->St->Prop} (h:xe P T Mv X G N ops (fun aG=>Q .normal aG) ops.toList σ):AW P Mv X G N (.region id ops false) Q σ:=fun w μ a hi=>by
 refine wpIn_region ?_;have:=ahk hg ops.toList 0 w μ a σ ak h hi (.refl _ w μ)
 rwa [<- alg,aj8]at this
theorem VC (hg:Good P T) {id:Nat} {ops:Array Oper} {Q:Exit->St->Prop} (h:∀ K:St->Prop,(∀ τ:St,Q .normal τ->K τ)->xe P T Mv X G N ops K ops.toList σ):AW P Mv X G N (.region id ops false) Q σ:=
 Vx hg (h _ fun _ h=>h)
def stepT (P:Program) (T:Ty) (Mv X:Nat->Prop) (G:ay) (N:Fr) (ops:Array Oper) (o:Oper) (σ:St) (K:St->Prop):Prop:=eI N o/\match jb ops σ.env o with
 | some b=>if b=true then B4 P T Mv X G N o σ K else K ⟨aL σ.env o.dst da,σ.H⟩
 | none=>False
theorem ahi {ops:Array Oper} {K:St->Prop} {o:Oper} {rest:List Oper} (h:∀ K':St->Prop,(∀ τ,xe P T Mv X G N ops K rest τ->K' τ)->stepT P T Mv X G N ops o σ K'):xe P T Mv X G N ops K (o :: rest) σ:=h _ fun _ h=>h
theorem ahj {ops:Array Oper} {K:St->Prop} (h:K σ):xe P T Mv X G N ops K [] σ:=h
attribute [simp] Ni B4 stepT
end
end Go.Av
namespace Go.Av
section
variable {P:Program} {T:Ty} {Mv X:Nat->Prop} {G:ay} {N:Fr} {ops:Array Oper} {σ:St}
def Dp:Op->Bool
 | .call { callee:=.builtin .copy,.. }=>true
 | _=>false
theorem IH {o:Oper} (ho:Dp o.op=true) {e e':Env} {H:Heap} {c:Prop} {x:AV} {aT:St} (ha:gq o.op e e') (h:wr T G Mv ⟨e,H⟩ o=some (c,x,aT)):aT.env=e/\wr T G Mv ⟨e',H⟩ o=some (c,x,⟨e',aT.H⟩):=by
 obtain⟨dst,op,type,pos,after,guard⟩:=o;dsimp only at ho ha;unfold Dp at ho;split at ho
 .rename_i args argTypes;unfold wr at h ⊢;dsimp only at h ⊢
  cases dst with
  | none=>cases h
  | some d=>
   dsimp only at h ⊢;split at h
   .rename_i x0 y0 t t' uM ny;have e1:args = #[x0,y0]:=akl.1 uM;subst e1;have hx:bC G e x0=bC G e' x0:=e8 fun t ht=>ha t (by simp[Op.operands,Call.operands,ht]);have hy:bC G e y0=bC G e' y0:=e8 fun t ht=>ha t (by simp[Op.operands,Call.operands,ht]);rw[hx,hy]at h;split at h
    .rename_i tt du
     try rw[du]
     try dsimp only
     split at h
     .rename_i el hd
      try rw[hd]
      try dsimp only
      split at h
      .rename_i te r off n v h1 h2 h3
       try rw[h1,h2,h3]
       try dsimp only
       split at h
       .rename_i ty sz els news g1 g2
        try rw[g1,g2]
        obtain⟨rfl,rfl,rfl⟩:=mB h;exact⟨rfl,rfl⟩
       .cases h
      .rename_i te k v h1 h2 h3
       try rw[h1,h2,h3]
       try dsimp only
       split at h
       .rename_i news g1
        try rw[g1]
        obtain⟨rfl,rfl,rfl⟩:=mB h;exact⟨rfl,rfl⟩
       .cases h
      .cases h
     .cases h
    .cases h
   .cases h
 .cases ho
def H5 (P:Program) (T:Ty) (Mv:Nat->Prop) (G:ay) (N:Fr) (cp:List Nat) (ops:Array Oper) (i:Nat) (o:Oper) (σ aG:St):Prop:=
 (cp.contains i=true/\eI N o/\o.guard=none/\dP o.op=none/\gE o.op=true/\Dp o.op=true/\∃ c x aT,wr T G Mv σ o=some (c,x,aT)/\c/\aG=⟨aL aT.env o.dst x,aT.H⟩)\/
 (cp.contains i=false/\qk P T Mv G N [] [] [] [] ops i o σ aG)
def EM (cp:List Nat) (ops:Array Oper) (i j:Nat) (oi oj:Oper):Bool:=
 if cp.contains i then !cp.contains j && kindOf oj.op == 0 && oi.apart ops oj else if cp.contains j then kindOf oi.op == 0 && oi.apart ops oj else BS [] [] [] ops i j oi oj
theorem Xn (hg:Good P T) (cp:List Nat):Sound P X G N Mv (H5 P T Mv G N cp ops) ops:=fun i o ho σ aG h w μ a hi Q K hk=>by
 rcases h with⟨_,hd,de,hc,hw,_,c,x,aT,h1,h2,rfl⟩ | ⟨_,h⟩
 .refine ze hg ⟨hd,.inl ⟨k7 de,?_⟩⟩ hi ho hk;unfold n5;simp only[hc];rw[if_pos hw];exact⟨c,x,aT,h1,h2,rfl⟩
 .exact GU hg [] [] [] [] i o ho _ _ h w μ a hi hk
theorem Sj {i:Nat} {o:Oper} {σ aG:St} (hk:kindOf o.op=0) (h:qk P T Mv G N [] [] [] [] ops i o σ aG):eI N o/\o.guard=none/\∃ x,Ex P T Mv G o σ.env σ.H x σ.H/\aG=⟨aL σ.env o.dst x,σ.H⟩:=by
 obtain⟨hd,de,_,h⟩:=h
 rcases h with⟨b,_⟩ | ⟨_,b,_⟩ | ⟨_,_,k1,_,x,H',e1,_,rfl⟩
 .cases b
 .cases b
 .obtain rfl:=e1.keeps aa;exact⟨hd,de,x,e1,rfl⟩
theorem Sk {i:Nat} {o:Oper} {e:Env} {H:Heap} {x:AV} (hk:kindOf o.op=0) (hd:eI N o) (de:o.guard=none) (h:Ex P T Mv G o e H x H):qk P T Mv G N [] [] [] [] ops i o ⟨e,H⟩ ⟨aL e o.dst x,H⟩:=
 ⟨hd,de,(fun r hr=>by cases hr),.inr (.inr ⟨rfl,rfl,aa,(by simp[pd,List.lookup]),x,H,h,(fun r hr=>by cases hr),rfl⟩)⟩
theorem Xo (cp:List Nat):vC (H5 P T Mv G N cp ops) (EM cp ops) ops:=fun i j oi oj gL fe hc σ aT gU h1 h2=>by
 unfold EM at hc
 have fact:∀ (eu:oi.apart ops oj=true),(∀ v,gq oj.op (aL σ.env oi.dst v) σ.env)/\(∀ v,gq oi.op σ.env (aL σ.env oj.dst v))/\_:=fun eu=>
  ⟨fun v t ht=>(je eu (e:=σ.env) (v:=v)).1 t (kK ht),fun v t ht=>((je eu (e:=σ.env) (v:=v)).2.1 t (kK ht)).symm,(je eu (e:=σ.env) (v:=da)).2.2⟩
 rcases h1 with⟨ai,di,gi,ci,wi,yi,c,x,τ,w1,cc,rfl⟩ | ⟨ai,h1⟩
 .rw[if_pos ai]at hc;simp only[IT,akP,beq_iff_eq]at hc;obtain⟨⟨aj,kj⟩,eu⟩:=hc;obtain⟨eU,fB,bf⟩:=fact eu
  rcases h2 with⟨bj,_⟩ | ⟨_,h2⟩
  .rw[aj]at bj;cases bj
  obtain⟨dj,gj,z,e2,rfl⟩:=Sj kj h2;have Rb:wr T G Mv ⟨σ.env,σ.H⟩ oi=some (c,x,τ):=w1;obtain⟨he,_⟩:=IH (e':=σ.env) yi (fun t ht=>rfl) Rb;rw[he]at e2 ⊢;have e3:Ex P T Mv G oj σ.env σ.H z σ.H:=(e2.congr aa (eU _)).free kj σ.H;refine⟨⟨aL σ.env oj.dst z,σ.H⟩,.inr ⟨aj,Sk kj dj gj e3⟩,.inl ⟨ai,di,gi,ci,wi,yi,c,x,_,(IH yi (fB z) Rb).2,cc,?_⟩⟩;dsimp only;rw[ig bf]
 .rw[if_neg (by rw[ai];decide)]at hc
  rcases h2 with⟨bj,dj,gj,cj,wj,yj,c,x,τ,w1,cc,rfl⟩ | ⟨bj,h2⟩
  .rw[if_pos bj]at hc;simp only[IT,beq_iff_eq]at hc;obtain⟨ki,eu⟩:=hc;obtain⟨eU,fB,bf⟩:=fact eu;obtain⟨di,gi,z,e1,rfl⟩:=Sj ki h1;obtain⟨he,w2⟩:=IH yj (eU z) w1;refine⟨⟨aL σ.env oj.dst x,τ.H⟩,.inl ⟨bj,dj,gj,cj,wj,yj,c,x,_,w2,cc,rfl⟩,.inr ⟨ai,?_⟩⟩;have e3:Ex P T Mv G oi (aL σ.env oj.dst x) τ.H z τ.H:=(e1.congr aa (fB x)).free ki τ.H;rw[he,ig bf];exact Sk ki di gi e3
  .rw[if_neg (by rw[bj];decide)]at hc;obtain⟨jl,f1,f2⟩:=L0 [] [] [] [] i j oi oj gL fe hc σ aT gU h1 h2;exact⟨jl,.inr ⟨bj,f1⟩,.inr ⟨ai,f2⟩⟩
def Eb (P:Program) (T:Ty) (Mv:Nat->Prop) (G:ay) (N:Fr) (cp:List Nat) (ops:Array Oper) (i:Nat) (o:Oper) (σ:St) (K:St->Prop):Prop:=
 if cp.contains i=true then eI N o/\o.guard=none/\dP o.op=none/\gE o.op=true/\Dp o.op=true/\match wr T G Mv σ o with
  | some (c,x,aT)=>c/\K ⟨aL aT.env o.dst x,aT.H⟩
  | none=>False
 else Bs P T Mv G N [] [] [] [] ops i o σ K
def vu (P:Program) (T:Ty) (Mv:Nat->Prop) (G:ay) (N:Fr) (cp:List Nat) (ops:Array Oper) (K:St->Prop):List (Nat×Oper)->St->Prop
 | [],σ=>K σ
 | (i,o) :: rest,σ=>Eb P T Mv G N cp ops i o σ (vu P T Mv G N cp ops K rest)
theorem ahb {cp:List Nat} {K:St->Prop}:∀ (l:List Nat) (σ:St),(∀ i∈l,i < ops.size)->vu P T Mv G N cp ops K (bU ops l) σ->∃ cq,K cq/\iJ (H5 P T Mv G N cp ops) ops l σ cq:=by
 intro l
 induction l with
 | nil=>intro σ _ h;exact⟨σ,h,rfl⟩
 | cons i l ih=>
  intro σ hl h;have hi:=hl i ak
  have ho:ops[i]? = some ops[i]:=by simp[hi]
  have aO:bU ops (i :: l)=(i,ops[i]) :: bU ops l:=by simp[bU,hi]
  rw[aO]at h;have h:Eb P T Mv G N cp ops i ops[i] σ (vu P T Mv G N cp ops K (bU ops l)):=h;unfold Eb at h;split at h
  .rename_i ha;obtain⟨hd,de,hc,hw,hy,h⟩:=h;split at h
   .rename_i c x aT h1;obtain⟨cK,h⟩:=h;obtain⟨cq,hk,hr⟩:=ih _ (fun j hj=>hl j (by simp[hj])) h;exact⟨cq,hk,_,ho,_,.inl ⟨ha,hd,de,hc,hw,hy,c,x,aT,h1,cK,rfl⟩,hr⟩
   .exact h.elim
  .rename_i ha
   have CG:bU ops [i]=[(i,ops[i])]:=by simp[bU,hi]
   have hm:zj P T Mv G N [] [] [] [] ops (vu P T Mv G N cp ops K (bU ops l)) (bU ops [i]) σ:=by rw[CG];exact h
   obtain⟨aT,bQ,o',pT,El,hs,pV⟩:=Nc [i] σ (by simpa using hi) (fun r hr=>by cases hr) hm;have pV:El=aT:=pV;subst pV;obtain⟨cq,hk,hr⟩:=ih _ (fun j hj=>hl j (by simp[hj])) bQ;exact⟨cq,hk,o',pT,_,.inr ⟨by simpa using ha,hs⟩,hr⟩
theorem Vs (hg:Good P T) (hm:P.follows .mixedOrders=true) (cp:List Nat) (ord:List Nat) {id:Nat} (bX:oH (EM cp ops) ord ops=true) {Q:Exit->St->Prop} (h:vu P T Mv G N cp ops (fun aG=>Q .normal aG) (bU ops ord) σ):AW P Mv X G N (.region id ops true) Q σ:=
 vA hm (Xn hg cp) (Xo cp) ord bX fun aH=>ahb ord σ aH h
theorem Vq (hg:Good P T) (hm:P.follows .mixedOrders=true) (cp:List Nat) (ord:List Nat) {id:Nat} (bX:oH (EM cp ops) ord ops=true) {Q:Exit->St->Prop}
  (h:∀ K:St->Prop,(∀ τ:St,Q .normal τ->K τ)->vu P T Mv G N cp ops K (bU ops ord) σ):AW P Mv X G N (.region id ops true) Q σ:=Vs hg hm cp ord bX (h _ fun _ h=>h)
theorem ag9 {cp:List Nat} {K:St->Prop} {i:Nat} {l:List Nat} {o:Oper} (ho:ops[i]? = some o) (h:∀ K':St->Prop,(∀ τ,vu P T Mv G N cp ops K (bU ops l) τ->K' τ)->Eb P T Mv G N cp ops i o σ K'):vu P T Mv G N cp ops K (bU ops (i :: l)) σ:=by
 have:bU ops (i :: l)=(i,o) :: bU ops l:=by simp[bU,ho]
 rw[this];exact h _ fun _ h=>h
theorem aha {cp:List Nat} {K:St->Prop} (h:K σ):vu P T Mv G N cp ops K (bU ops []) σ:=h
end
attribute [simp] Eb Dp
end Go.Av
namespace Go.Proofs.YtoohljflflnbeaaGreatDoor
open Go.Av
theorem ma1:pA .and .u64 1 4294967295=1:=bF
theorem ma0:pA .and .u64 0 4294967295=0:=bF
theorem man (n:Nat) (h:n < 2^32):pA .and .u64 (n:Int) 4294967295=n:=by
 have:=ahI n 4294967295 aa bF
 have e:n &&& 4294967295=n:=by
  have:=Nat.and_two_pow_sub_one_eq_mod n 32;simp only[Nat.reducePow,Nat.reduceSub]at this;rw[this];omega
 rw[e]at this;exact this
theorem ms1:Int.fdiv 1 (2 ^ (min 32 IntKind.u64.bits))=0:=bF
theorem ms0:Int.fdiv 0 (2 ^ (min 32 IntKind.u64.bits))=0:=bF
theorem msn (n:Nat) (h:n < 2^32):Int.fdiv (n:Int) (2 ^ (min 32 IntKind.u64.bits))=0:=by
 have e:(2:Int) ^ (min 32 IntKind.u64.bits)=4294967296:=bF
 rw[e,Int.fdiv_eq_ediv_of_nonneg _ bF];omega
theorem mw0:IntKind.u64.wrap 0=0:=bF
theorem L6:IntKind.u64.wrap 1=1:=bF
theorem Sn (n:Nat) (h:n < 2^32):IntKind.u64.wrap (n:Int)=n:=U0 n aa
def dU (n:Int):D:=.v (.int .u64 n)
theorem acM (G:ay) (n:Nat) (h:n < 2^32):aD prog G 253 [dU 1,dU n] (.bz [dU 0,dU n]):=by
 have a2:=man n h;have s2:=msn n h;have w2:=Sn n h;simp only[dU];refine aD.aQ (aC _) func253 rfl rfl (rs:=[.tmp 4,.tmp 5]) results253 (by simp[ntmps253]) fun X=>?_;simp only[ntmps253,List.map];have fw:=(Aq @sH.eq_1 (Aq @sH.eq_2 (Aq @sH.eq_3 (Aq @ma1 (Aq @ma0 (Aq @a2 (Aq @ms1 (Aq @ms0 (Aq @s2 (Aq @mw0 (Aq @L6 @w2)))))))))));refine ae fw [0,1] [] ?_;refine ae fw [0,1,6] [] ?_;refine ae fw [0,1,6,7] [] ?_;refine ae fw [0,1,6,7,8] [] ?_;refine ae fw [0,1,6,7,8,9] [] ?_;refine ae fw [0,1,6,7,8,9,10] [] ?_;refine ae fw [0,1,6,7,9,11] [] ?_;refine ae fw [0,1,6,7,9,11,12] [] ?_;refine ae fw [0,1,6,7,9,12,13] [] ?_;refine ae fw [0,1,7,9,12,13] [] ?_;refine ae fw [0,1,4] [] ?_;refine ae fw [4,5] [] ?_;exact aU fw
theorem mul_one (G:ay) (n:Nat) (h:n < 2^32):aD prog G 201 [dU 1,dU n] (.bz [dU 0,dU n]):=by
 have hm:=acM G n h;simp only[dU]at hm ⊢;refine aD.aQ (aC _) func201 rfl rfl (rs:=[.tmp 4,.tmp 5]) results201 (by simp[ntmps201]) fun X=>?_;simp only[ntmps201,List.map];refine aB [0,1] [] ?_;refine ag fun K1 aF=>al ?_;refine ar (aF _ (br trivial hm [8,9] [] ?_));refine aB [4,5] [] ?_;exact gn
def nL (x:Int) (k n:Nat):List (List D):=List.replicate k [.v (.int .i64 x)] ++ List.replicate (n - k) [.v (.int .i64 0)]
theorem Tq {x:Int} {k n:Nat} (h:k<=n):(nL x k n).length=n:=by simp[nL];omega
theorem aes (x:Int) (n:Nat):List.replicate n [D.v (.int .i64 0)]=nL x 0 n:=by simp[nL]
theorem aep (x:Int) (n:Nat):nL x n n=List.replicate n [.v (.int .i64 x)]:=by simp[nL]
theorem aer {x:Int} {n:Nat} (h:1<=n):nu (nL x 0 n) [[.v (.int .i64 x)]] 0 n=nL x 1 n:=by
 have e:[[D.v (.int .i64 x)]].take n=[[.v (.int .i64 x)]]:=sh (by simpa using h);simp[nu,nL,e]
theorem Tr {x:Int} {k n:Nat}:(nL x k n).take k=List.replicate k [.v (.int .i64 x)]:=by
 unfold nL;rw[akN ak,sh ak]
theorem aeq {x:Int} {k n:Nat} (h:k<=n):nu (nL x k n) (List.replicate k [.v (.int .i64 x)]) k (n - k)=nL x (k+min (n - k) k) n:=by
 unfold nu;rw[Tr,List.take_replicate,List.length_replicate]
 have e:(nL x k n).drop (k+min (n - k) k)=List.replicate (n - (k+min (n - k) k)) [.v (.int .i64 0)]:=by
  unfold nL;rw[List.drop_append,akr ak,akM,List.length_replicate,List.drop_replicate];congr 1;omega
 rw[e];unfold nL;rw[List.replicate_append_replicate]
theorem aet (G:ay) (x:Int) (n:Nat) (h1:1<=n) (h2:n<=2^20):MC prog G [] 128 [.d (.sl none [[.v (.int .i64 x)]]),.d (ab n)] (aq []) (.own 601 0 n) (aq [(601,.sl 3 1 (List.replicate n [.v (.int .i64 x)]))]):=by
 have hm:=mul_one G n aa;have w2:=Sn n aa;have hz:=aes x n;have ho:=aer (x:=x) h1
 have h0:¬ (n:Int) < 0:=aa
 have hb:¬ (n:Int) > 9223372036854775807:=aa
 have qK:[[D.v (.int .i64 x)]].take n=[[.v (.int .i64 x)]]:=sh (by simpa using h1);simp only[dU,ab]at hm ⊢;refine MC.aQ (aC _) func128 rfl rfl (rs:=[.tmp 4]) results128 (by simp[ntmps128]) rfl fun X=>?_;simp only[ntmps128];have fw:=(Aq @L6 @w2);refine ae fw [0,1] [] ?_;refine ag fun K1 aF=>?_;have qf:=(Aq fw @h0);refine au [0,1,10] [] ?_;refine b9 ak ?_;refine ar (aF _ (br fw hm [0,5,6] [] ?_));refine ag fun K2 aw=>?_;have qf:=(Aq fw @hb);refine au [0,6,26] [] ?_;refine b9 (by simp<;>omega) ?_;refine ar (aw _ ?_);have qf:=(Aq fw (Aq @lZ.eq_1 (Aq @gg.eq_1 (Aq @gg.eq_2 @hz))));refine au [0,7] [30] ?_;have qf:=(Aq fw (Aq @Tq (Aq @ho (Aq @qK @h1))));refine au [7,8] [30] ?_;refine ag fun K3 aZ=>cG (S:=Nat) (fun k=>1<=k/\k<=n) (fun k=>⟨bp [(7,.own 30 0 n),(8,int k)],aq [(30,.sl 3 1 (nL x k n))]⟩) (fun k=>n - k) 1 ?_ ⟨aa,h1⟩ ?_
 .refine bt fw
 .rintro k ⟨bQ,fP⟩;refine ag fun K4 cr=>?_;by_cases aH:k < n
  .have hl:=Tq (x:=x) fP;have JQ:=aeq (x:=x) fP;have cY:=Tr (x:=x) (k:=k) (n:=n);have qf:=(Aq fw @aH);refine au [7,8,37] [30] ?_;refine b8 (by simp<;>omega) ?_;refine ar (cr _ (bg ?_))
   have nD:¬ k=n:=aa
   refine Vq (aC _) ah ([7]) (List.range 10) ah fun K' ao=>?_;(repeat refine ag9 rfl fun K2 aw=>?_;simp[L6,w2,hl,JQ,cY,fP,nD];(repeat refine⟨aa,?_⟩);refine aw _ ?_;clear aw K2);refine aha (ao _ ?_);(try simp only[aV,aX]);refine bh.mk (k+min (n - k) k) ⟨aa,aa⟩ aa ?_;refine bt fw
  .obtain rfl:k=n:=aa
   refine ae fw [7,8,37] [30] ?_;refine b9 ak ?_;refine b5 (aZ _ ?_);rw[aep];refine ae fw [4] [30] ?_;refine AW.imp (aM.dI (r:=30) (r':=601) bF ak) ?_;refine AW.st (by simp[ik,ij,Go.Av.dI,qU];rfl) ?_;exact aU fw
theorem O5 (G:ay):aD prog G 53 [.v (.pointer none)] (.bz [.sl none [],.cf 50 (.v (.int .i64 7))]):=by
 refine aD.aQ (aC _) func53 rfl rfl (rs:=[.tmp 2,.tmp 3]) results53 (by simp[ntmps53]) fun X=>?_;simp only[ntmps53,List.map];refine aB [0] [] ?_;refine ag fun K1 aF=>aB [0,10] [] ?_;refine aJ (aB [2,3] [] ?_);exact gn
def vw:List Int->Nat->AV
 | [],_=>.d (.sl none [])
 | _ :: T,m=>.own 20 m (T.length+1)
theorem E7 (G:ay) (p:aS) (bn:c8 p=none) (qD:(bA p).length<=6) (hP:bZ (bO p)<=4096):aD prog G 53 [qp p] (.bz [fI (fZ (bl p)),.v .nilIface]):=by
 have ht:=Bu bn;have o3:=ht.pos;have hlen:=sC p;have qF:0 < bZ (bO p):=oJ fun x hx=>(nJ (iB bn) hx).m2;have so:∀ O,qi (bl p) O []->O=fZ (bl p):=fun O h=>Ja (BO h) (sW ht);have eL:=Iy ht
 have wB:∀ s (h:s < (bl p).length),(bl p)[s].length<=64:=fun s h=>by
  rw[DH h,y6];have:=akR (n:=2) bF qD;omega
 have oT:=Bc (bl p)
 have kc:∀ s (h:s < (bl p).length),(fL (bl p))[s]? = some [fI (bl p)[s]]:=fun s h=>by simp[fL,h]
 have AB:=fun n (h1:1<=n) (h2:n<=2^20)=>aet G (-1) n h1 h2
 have hcast:((bl p).length:Int)=bZ (bO p):=by rw[hlen];omega
 simp only[qp,ri,sa,cE,fg,nY,fI,ab]at kc AB ⊢;rw[<- hcast]
 have yh:(bl p).length<=4096:=aa
 generalize fZ (bl p)=F at *;generalize fL (bl p)=NX at *;generalize bl p=TN at *;clear hlen hcast;generalize ((bA p).map fun n=>[D.v (.int .i64 n)])=IN at *;generalize (bO p).map jF=PT at *;generalize p.names.map bw=NN at *;generalize p.ax.map cU=RR at *;obtain⟨N,hN⟩:∃ N:Nat,TN.length=N:=⟨_,rfl⟩;rw[hN]at oT yh o3 eL ⊢;have hrp:=AB N aa aa
 have aaK:0 < N:=aa
 refine aD.aQ (aC _) func53 rfl rfl (rs:=[.tmp 2,.tmp 3]) results53 (by simp[ntmps53]) fun X=>?_;simp only[ntmps53,List.map];have fw:=@alv;refine ae fw [0] [] ?_;refine ag fun K1 aF=>ae fw [0,10] [] ?_;refine al (ar (aF _ ?_));refine rg [0,4] [601] aN fun K' ao=>?_;(repeat refine aK fun Kq af=>?_;simp[ab];(repeat refine⟨aa,?_⟩);refine af _ ?_);refine aK fun Kq af=>?_;simp[ab];refine cX.xI 12 (by first | rfl | (simp[ab];rfl)) trivial ?_;simp[ab];refine cX.mc (hrp) ?_ ?_ ?_ ?_ ?_<;>simp[ab];refine af _ ?_;(repeat refine aK fun Kq af=>?_;simp[ab];(repeat refine⟨aa,?_⟩);refine af _ ?_);refine bJ (ao _ (AW.st (by simp[ab];rfl) ?_));have qf:=(Aq fw @aaK);refine au [0,4] [601] ?_;refine ag fun K2 aw=>ae fw [0,4,5] [601,20] ?_;refine cG (S:=List Int×List Int×List (List D)) (fun s=>qi TN s.1 s.2.1) (fun s=>⟨bp [(0,.d (.ip [.sl none NN,.sl none RR,.v (.int .i64 N),.v (.int .i64 (pZ p)),.sl none NX,.sl none PT,.sl none IN])),(4,.own 601 0 N),(5,vw s.2.1 s.2.2.length)],aq [(601,.sl 3 1 (s.1.map fun n=>[.v (.int .i64 n)])),(20,.sl 3 1 (s.2.2 ++ s.2.1.map fun n=>[.v (.int .i64 n)]))]⟩) (fun s=>2 * lC s.1+s.2.1.length) ((List.replicate N (-1)).set 0 0,[0],[]) ?_ eL ?_
 .refine aM.dk aN (by simp[ab,ajV,ake,vw]) (by simp[ab,ajV,ake,vw])
 .rintro⟨O,T,pr⟩ hb;dsimp only at hb ⊢;refine ag fun K3 aZ=>?_
  cases T with
  | nil=>
   simp only[vw];refine ae fw [0,4,5,23] [601,20] ?_;refine b9 ak ?_;refine b5 (aw _ ?_);obtain rfl:=so O hb
   have z7:(O.map fun n=>[D.v (.int .i64 n)]).length=N:=by rw[aki,hb.len,hN]
   refine AW.imp (aM.freeze 601 trivial) ?_;refine AW.st (by simp[ab,z7,sh];rfl) ?_;refine ae fw [2,3] [20] ?_;exact aU fw
  | cons t T=>
   obtain⟨h0,h1,h2⟩:=hb.mem t ak;obtain⟨s,rfl⟩:=ajL h0
   have C9:s < N:=aa
   have o8:s < TN.length:=aa
   have dt:(T.length:Int)+1 > 0:=aa
   simp only[vw];have qf:=(Aq fw @dt);refine au [0,4,5,23] [601,20] ?_;refine b8 (by simp<;>omega) ?_;refine ar (aZ _ (ag fun K4 cr=>bg ?_));have pG:=kc s o8
   have lv:s < NX.length:=aa
   have rz:NX[s]=[.sl none (TN[s].map fun n=>[.v (.int .i64 n)])]:=by
    rw[AT lv]at pG;exact AI pG
   have fR:=ht.mem _ (By o8);have Zl:=wB s o8;have dJ:∃ R,TN[s]=R:=⟨_,rfl⟩;obtain⟨R,hR⟩:=dJ
   have fq:∀ k (h:k < R.length),(R.map fun n=>[D.v (.int .i64 n)])[k]? = some [.v (.int .i64 R[k])]:=fun k h=>by simp[h]
   have An:(pr ++ List.map (fun n=>[D.v (.int .i64 n)]) ((s:Int) :: T))[pr.length]? = some [.v (.int .i64 s)]:=ak
   have Qg:(pr ++ List.map (fun n=>[D.v (.int .i64 n)]) ((s:Int) :: T)).length=pr.length+(T.length+1):=ak
   rw[hR]at rz fR Zl
   have eK:(R.map fun n=>[D.v (.int .i64 n)]).length=R.length:=ak
   have Fx:2 * lC O+T.length<=2 * lC O+T.length:=ajJ _;generalize hM:2 * lC O+T.length=M at Fx
   have hMd:2 * lC O+((s:Int) :: T).length=M+1:=by simp;omega
   generalize Co:pr ++ List.map (fun n=>[D.v (.int .i64 n)]) ((s:Int) :: T)=Es at An Qg ⊢;obtain⟨x7,An⟩:=BY.1 An;have qf:=(Aq fw (Aq @x7 (Aq @An @Qg)));refine au [0,4,5,6] [601,20] ?_;have qf:=(Aq fw (Aq @lv @rz));refine au [0,4,5,6,35,36,37] [601,20] ?_;subst Co;refine cG (S:=Nat×List Int×List Int×List (List D)) (fun q=>q.1<=R.length/\qi TN q.2.1 ((s:Int) :: q.2.2.1)/\(∀ t∈R.take q.1,lD q.2.1 s t)/\2 * lC q.2.1+q.2.2.1.length<=M) (fun q=>⟨bp [(0,.d (.ip [.sl none NN,.sl none RR,.v (.int .i64 N),.v (.int .i64 (pZ p)),.sl none NX,.sl none PT,.sl none IN])),(4,.own 601 0 N),(5,.own 20 q.2.2.2.length (q.2.2.1.length+1)),(6,int s),(35,.d (.sl none (R.map fun n=>[.v (.int .i64 n)]))),(36,int R.length),(37,int q.1)],aq [(601,.sl 3 1 (q.2.1.map fun n=>[.v (.int .i64 n)])),(20,.sl 3 1 (q.2.2.2 ++ [.v (.int .i64 s)] :: q.2.2.1.map fun n=>[.v (.int .i64 n)]))]⟩) (fun q=>R.length - q.1) (0,O,T,pr) ?_ ⟨ak,hb,ak,by dsimp only;omega⟩ ?_
   .refine bt fw
   .rintro⟨k,O2,T2,DT⟩ ⟨hk,ea,bX,wx⟩;dsimp only at hk ea bX wx ⊢;have J7:=ea.Jb;simp only[ajP]at J7
    have hT2:T2.length+1<=4096:=aa
    have FB:(O2.map fun n=>[D.v (.int .i64 n)]).length=N:=by rw[aki,ea.len,hN]
    refine ae fw [0,4,5,6,35,36,37,38] [601,20] ?_;refine ag fun K5 cg=>fG (b:=k < R.length) (by simp[D.le,D.le.go,aR,ab]) (fun hc=>?_) (fun hc=>?_)
    .refine ar (cg _ (ag fun K6 eB=>bg ?_));obtain⟨v0,v1⟩:=fR R[k] (By hc);obtain⟨u,hu⟩:=ajL v0
     have mY:u < N:=aa
     have o9:u < O2.length:=by rw[ea.len,hN];exact mY
     have QP:s < O2.length:=by rw[ea.len,hN];exact C9
     have aO:(u:Int)∈TN[s]:=by rw[hR,<- hu];exact By hc
     have cY:R.take (k+1)=R.take k ++ [(u:Int)]:=by rw[ajO hc,hu]
     have eH:=(ea.mem (s:Int) ak).2.2;simp only[ajI]at eH;have va:=ea.hi s o8;have htp:=ea.top _ rfl u aa;simp only[ajI]at htp
     have lQ:0<=((O2.countP fun x=>decide (x < 0):Nat):Int):=aa
     have qf:=(Aq fw (Aq @hc @hu));refine au [0,4,5,6,8,35,36,37] [601,20] ?_;by_cases gA:O2.getD u 0 < 0
     .have QL:=Og ea o8 aa aO gA;have hng:=GV (x:=O2.getD s 0+1) o9 gA aa
      have KW:u≠s:=fun e=>by subst e;omega
      have F7:∀ t∈R.take (k+1),lD (O2.set u (O2.getD s 0+1)) s t:=fun t h=>by
       rw[cY]at h
       rcases ajR.1 h with h | h
       .exact DN (bX t h) eH gA
       .obtain rfl:=aj3.1 h;unfold lD;rw[ajI,kb o9,gw KW];omega
      rw[dV o9]at gA;rw[dV QP]at QL hng F7 eH va;generalize u6:O2[u]=ov at gA;generalize oA:O2[s]=sv at *
      have P9:List.take (T2.length+1) (List.drop DT.length (DT ++ [D.v (.int .i64 s)] :: T2.map fun n=>[D.v (.int .i64 n)]))=[D.v (.int .i64 s)] :: T2.map fun n=>[D.v (.int .i64 n)]:=by
       rw[List.drop_left,sh ak]
      have qf:=(Aq fw (Aq @o9 (Aq @mY (Aq @u6 @gA))));refine au [0,4,5,6,8,35,36,37,45] [601,20] ?_;refine b8 (by simp<;>omega) ?_;have qf:=(Aq fw (Aq @o9 (Aq @QP (Aq @mY (Aq @C9 @oA)))));refine au [0,4,5,6,8,35,36,37] [601,20] ?_;refine VC (aC _) fun K' ao=>?_;(repeat refine ahi fun Kq af=>?_;simp[ab,P9];(repeat refine⟨aa,?_⟩);(first | refine af _ ?_ | (intro pre;refine af _ ?_)));refine ahj (ao _ ?_);refine eB _ (AW.norm [0,4,5,6,35,36,37] [601,20] aN (AW.st (by simp[ab,P9];rfl) ?_));refine cD fw ?_;(try simp only[aV,aX]);refine bh.mk (k+1,O2.set u (sv+1),T2 ++ [(u:Int)],pre) ⟨by dsimp only;omega,QL,F7,by dsimp only;rw[ajQ];simp only[ajP,akA];omega⟩ (by dsimp only;omega) ?_;refine aM.dk aN (by simp[ab,ajV,sh]) (by simp[ab,ajV,sh])
     .have F7:∀ t∈R.take (k+1),lD O2 s t:=fun t h=>by
       rw[cY]at h
       rcases ajR.1 h with h | h
       .exact bX t h
       .obtain rfl:=aj3.1 h;unfold lD;rw[ajI];omega
      rw[dV o9]at gA;generalize u6:O2[u]=ov at gA;have qf:=(Aq fw (Aq @o9 (Aq @mY (Aq @u6 @gA))));refine au [0,4,5,6,8,35,36,37,45] [601,20] ?_;refine b9 (by simp<;>omega) ?_;refine ar (eB _ (cD fw ?_));(try simp only[aV,aX]);refine bh.mk (k+1,O2,T2,DT) ⟨by dsimp only;omega,ea,F7,wx⟩ (by dsimp only;omega) ?_;refine bt fw
    .obtain rfl:k=R.length:=aa
     rw[sh (ajJ _)]at bX;have QI:=Ix ea o8 (by rw[hR];exact bX)
     cases T2 with
     | nil=>
      refine b5 (cr _ (cD fw ?_));(try simp only[aV,aX]);refine bh.mk (O2,[],DT ++ [[D.v (.int .i64 s)]]) QI (by dsimp only;omega) ?_;refine aM.dk aN (by simp[ab,vw]) (by simp[ab,vw])
     | cons u T3=>
      have bf:¬ (1:Int)=(T3.length:Int)+1+1:=aa
      refine b5 (cr _ ?_);have qf:=(Aq fw @bf);refine Bl ?_;(try simp only[aV,aX]);refine bh.mk (O2,u :: T3,DT ++ [[D.v (.int .i64 s)]]) QI (by dsimp only;omega) ?_;refine aM.dk aN (by simp[ab,vw]) (by simp[ab,vw])
structure xl (C:List AV) (n kk N:Nat) (L:List Bool):Prop where
 len:C.length=n
 lt:kk < n
 at':∀ h:kk < C.length,C[kk] = .d (.sl none (L.map fun b=>[.v (.bool b)]))
 tr:∀ o f:Nat->Nat->Nat->AV,o 73 0 N = .own 73 0 N->C.map (AV.tr o f)=C
 kill:∀ r,r≠73->C.map (AV.kill r)=C
theorem ad2 (G:ay) {n kk N:Nat} {C:List AV} {L:List Bool} (hC:xl C n kk N L) (r:List (List D)) (hn:n<=2^20) (x:Nat) (hx:x < L.length):MC prog G [8,9,46,73] 130 [.d (.v (.int .i64 x)),.ref 8 0 0,.ref 9 0 0] (aq [(8,.box 80 [.own 46 0 n]),(9,.box 3 [.d (.v (.int .i64 ((kk:Int)+1)))]),(46,.box 86 C),(73,.sl 4 1 r)]) (.d (.v (.bool L[x]))) (aq [(8,.box 80 [.own 46 0 n]),(9,.box 3 [.d (.v (.int .i64 ((kk:Int)+1)))]),(46,.box 86 C),(73,.sl 4 1 r)]):=by
 have hl:=hC.len;have aH:=hC.lt
 have eD:kk < C.length:=aa
 have ha:=hC.at' eD;have ia:=hC.tr;generalize hb:L[x]=b;refine MC.aQ (aC _) func130 rfl rfl (rs:=[.tmp 4]) results130 (by simp[ntmps130]) rfl fun X=>?_;simp only[ntmps130];have fw:=@ia;refine ae fw [0,1,2] [8,9,46,73] ?_;have qf:=(Aq fw (Aq @hl (Aq @aH (Aq @eD (Aq @ha (Aq @hx @hb))))));refine au [4] [8,9,46,73] ?_;exact aU (Aq fw @ia)
theorem ad3 (G:ay) {n kk N:Nat} {C:List AV} {L:List Bool} (hC:xl C n kk N L) (hD:∀ o f:Nat->Nat->Nat->AV,C.map (AV.tr o f)=C) (hn:n<=2^20) (x:Nat) (hx:x < L.length):MC prog G [8,14,46] 132 [.d (.v (.int .i64 x)),.ref 8 0 0,.ref 14 0 0] (aq [(8,.box 80 [.own 46 0 n]),(14,.box 3 [.d (.v (.int .i64 ((kk:Int)+1)))]),(46,.box 86 C)]) (.d (.v (.bool L[x]))) (aq [(8,.box 80 [.own 46 0 n]),(14,.box 3 [.d (.v (.int .i64 ((kk:Int)+1)))]),(46,.box 86 C)]):=by
 have hl:=hC.len;have aH:=hC.lt
 have eD:kk < C.length:=aa
 have ha:=hC.at' eD;have ia:=hD;generalize hb:L[x]=b;refine MC.aQ (aC _) func132 rfl rfl (rs:=[.tmp 4]) results132 (by simp[ntmps132]) rfl fun X=>?_;simp only[ntmps132];have fw:=@ia;refine ae fw [0,1,2] [8,14,46] ?_;have qf:=(Aq fw (Aq @hl (Aq @aH (Aq @eD (Aq @ha (Aq @hx @hb))))));refine au [4] [8,14,46] ?_;exact aU (Aq fw @ia)
theorem abh (G:ay) {n kk N:Nat} {C:List AV} {L:List Bool} (hC:xl C n kk N L) (r:List (List D)) (hn:n<=2^20) (xs:List Int) (hx:∀ x∈xs,0<=x/\x < L.length) (hl:xs.length < 2^40):MC prog G [8,9,46,73] 131 [.d (.sl none (xs.map fun n=>[.v (.int .i64 n)])),.fn (.func 130) [.ref 8 0 0,.ref 9 0 0]] (aq [(8,.box 80 [.own 46 0 n]),(9,.box 3 [.d (.v (.int .i64 ((kk:Int)+1)))]),(46,.box 86 C),(73,.sl 4 1 r)]) (.d (.v (.int .i64 (idx (fun x:Int=>L.getD x.toNat false) xs)))) (aq [(8,.box 80 [.own 46 0 n]),(9,.box 3 [.d (.v (.int .i64 ((kk:Int)+1)))]),(46,.box 86 C),(73,.sl 4 1 r)]):=by
 have hp:=fun (x:Int) (h:x∈xs)=>(show MC prog G [8,9,46,73] 130 [.d (.v (.int .i64 x)),.ref 8 0 0,.ref 9 0 0] (aq [(8,.box 80 [.own 46 0 n]),(9,.box 3 [.d (.v (.int .i64 ((kk:Int)+1)))]),(46,.box 86 C),(73,.sl 4 1 r)]) (.d (.v (.bool (L.getD x.toNat false)))) (aq [(8,.box 80 [.own 46 0 n]),(9,.box 3 [.d (.v (.int .i64 ((kk:Int)+1)))]),(46,.box 86 C),(73,.sl 4 1 r)]) by
  obtain⟨h0,h1⟩:=hx x h;obtain⟨u,rfl⟩:=ajL h0;rw[ajI,dV aa]
  exact ad2 G hC r hn u aa)
 have ia:=hC.tr;refine MC.aQ (aC _) func131 rfl rfl (rs:=[.tmp 4]) results131 (by simp[ntmps131]) rfl fun X=>?_;simp only[ntmps131];have fw:=@ia;refine ae fw [0,1] [8,9,46,73] ?_;refine ag fun K1 aF=>ae fw [0,1,7,8] [8,9,46,73] ?_;refine cG (S:=Nat) (fun n=>n<=xs.length/\∀ i (hi:i < xs.length),i < n->(L.getD xs[i].toNat false)=false) (fun n_1=>⟨bp [(0,.d (.sl none (xs.map fun n=>[.v (.int .i64 n)]))),(1,.fn (.func 130) [.ref 8 0 0,.ref 9 0 0]),(7,int xs.length),(8,int n_1)],aq [(8,.box 80 [.own 46 0 n]),(9,.box 3 [.d (.v (.int .i64 ((kk:Int)+1)))]),(46,.box 86 C),(73,.sl 4 1 r)]⟩) (fun n=>xs.length - n) 0 ?_ ak ?_
 .refine bt (Aq fw @ia)
 .rintro j ⟨hj,mW⟩;refine ae fw [0,1,7,8,9] [8,9,46,73] ?_;refine ag fun K2 aw=>fG (b:=j < xs.length) (by simp[D.le,D.le.go,aR,ia]) (fun hc=>?_) (fun hc=>?_)
  .refine ar (aw _ (ag fun K3 aZ=>bg ?_));have iX:=hp _ (By hc);have hit:=fun gB=>ve (p:=fun x:Int=>L.getD x.toNat false) hc gB fun i hi=>mW i aa hi;generalize sj:L.getD xs[j].toNat false=bv at iX hit;refine ae fw [0,1,5,7,8] [8,9,46,73] ?_;have qf:=(Aq fw @hc);refine jW iX [0,1,5,7,8,16] [8,9,46,73] ?_
   cases bv with
   | true=>
    refine aJ ?_;rw[hit rfl];refine ae fw [4] [8,9,46,73] ?_;exact aU (Aq fw @ia)
   | false=>
    refine al (ar (aZ _ ?_));refine cD fw ?_;(try simp only[aV,aX]);refine bh.mk (j+1) ⟨aa,fun i hi aO=>?_⟩ aa ?_
    .by_cases h:i=j
     .subst h;exact sj
     .exact mW i hi aa
    refine bt (Aq fw @ia)
  .refine b5 (aF _ ?_);have Kx:=vf (p:=fun x:Int=>L.getD x.toNat false) (l:=xs) fun i hi=>mW i hi aa;rw[Kx];refine ae fw [4] [8,9,46,73] ?_;exact aU (Aq fw @ia)
theorem Xl (G:ay) {n kk N:Nat} {C:List AV} {L:List Bool} (hC:xl C n kk N L) (r:List (List D)) (hn:n<=2^20) (xs:List Int) (hx:∀ x∈xs,0<=x/\x < L.length) (hl:xs.length < 2^40):MC prog G [8,9,46,73] 129 [.d (.sl none (xs.map fun n=>[.v (.int .i64 n)])),.fn (.func 130) [.ref 8 0 0,.ref 9 0 0]] (aq [(8,.box 80 [.own 46 0 n]),(9,.box 3 [.d (.v (.int .i64 ((kk:Int)+1)))]),(46,.box 86 C),(73,.sl 4 1 r)]) (.d (.v (.bool (zw xs L)))) (aq [(8,.box 80 [.own 46 0 n]),(9,.box 3 [.d (.v (.int .i64 ((kk:Int)+1)))]),(46,.box 86 C),(73,.sl 4 1 r)]):=by
 have hi:=abh G hC r hn xs hx hl;have ia:=hC.tr;have he:decide (0<=idx (fun x:Int=>L.getD x.toNat false) xs)=zw xs L:=Gr _ _;rw[<- he];generalize idx (fun x:Int=>L.getD x.toNat false) xs=ix at hi ⊢;generalize (xs.map fun n=>[D.v (.int .i64 n)])=XS at *;refine MC.aQ (aC _) func129 rfl rfl (rs:=[.tmp 4]) results129 (by simp[ntmps129]) rfl fun X=>?_;simp only[ntmps129];have fw:=@ia;refine ae fw [0,1] [8,9,46,73] ?_;refine bG fw hi [4] [8,9,46,73] ?_;exact aU (Aq fw @ia)
theorem abj (G:ay) {n kk N:Nat} {C:List AV} {L:List Bool} (hC:xl C n kk N L) (hD:∀ o f:Nat->Nat->Nat->AV,C.map (AV.tr o f)=C) (hn:n<=2^20) (xs:List Int) (hx:∀ x∈xs,0<=x/\x < L.length) (hl:xs.length < 2^40):MC prog G [8,14,46] 131 [.d (.sl none (xs.map fun n=>[.v (.int .i64 n)])),.fn (.func 132) [.ref 8 0 0,.ref 14 0 0]] (aq [(8,.box 80 [.own 46 0 n]),(14,.box 3 [.d (.v (.int .i64 ((kk:Int)+1)))]),(46,.box 86 C)]) (.d (.v (.int .i64 (idx (fun x:Int=>L.getD x.toNat false) xs)))) (aq [(8,.box 80 [.own 46 0 n]),(14,.box 3 [.d (.v (.int .i64 ((kk:Int)+1)))]),(46,.box 86 C)]):=by
 have hp:=fun (x:Int) (h:x∈xs)=>(show MC prog G [8,14,46] 132 [.d (.v (.int .i64 x)),.ref 8 0 0,.ref 14 0 0] (aq [(8,.box 80 [.own 46 0 n]),(14,.box 3 [.d (.v (.int .i64 ((kk:Int)+1)))]),(46,.box 86 C)]) (.d (.v (.bool (L.getD x.toNat false)))) (aq [(8,.box 80 [.own 46 0 n]),(14,.box 3 [.d (.v (.int .i64 ((kk:Int)+1)))]),(46,.box 86 C)]) by
  obtain⟨h0,h1⟩:=hx x h;obtain⟨u,rfl⟩:=ajL h0;rw[ajI,dV aa]
  exact ad3 G hC hD hn u aa)
 have ia:=hD;refine MC.aQ (aC _) func131 rfl rfl (rs:=[.tmp 4]) results131 (by simp[ntmps131]) rfl fun X=>?_;simp only[ntmps131];have fw:=@ia;refine ae fw [0,1] [8,14,46] ?_;refine ag fun K1 aF=>ae fw [0,1,7,8] [8,14,46] ?_;refine cG (S:=Nat) (fun n=>n<=xs.length/\∀ i (hi:i < xs.length),i < n->(L.getD xs[i].toNat false)=false) (fun n_1=>⟨bp [(0,.d (.sl none (xs.map fun n=>[.v (.int .i64 n)]))),(1,.fn (.func 132) [.ref 8 0 0,.ref 14 0 0]),(7,int xs.length),(8,int n_1)],aq [(8,.box 80 [.own 46 0 n]),(14,.box 3 [.d (.v (.int .i64 ((kk:Int)+1)))]),(46,.box 86 C)]⟩) (fun n=>xs.length - n) 0 ?_ ak ?_
 .refine bt (Aq fw @ia)
 .rintro j ⟨hj,mW⟩;refine ae fw [0,1,7,8,9] [8,14,46] ?_;refine ag fun K2 aw=>fG (b:=j < xs.length) (by simp[D.le,D.le.go,aR,ia]) (fun hc=>?_) (fun hc=>?_)
  .refine ar (aw _ (ag fun K3 aZ=>bg ?_));have iX:=hp _ (By hc);have hit:=fun gB=>ve (p:=fun x:Int=>L.getD x.toNat false) hc gB fun i hi=>mW i aa hi;generalize sj:L.getD xs[j].toNat false=bv at iX hit;refine ae fw [0,1,5,7,8] [8,14,46] ?_;have qf:=(Aq fw @hc);refine jW iX [0,1,5,7,8,16] [8,14,46] ?_
   cases bv with
   | true=>
    refine aJ ?_;rw[hit rfl];refine ae fw [4] [8,14,46] ?_;exact aU (Aq fw @ia)
   | false=>
    refine al (ar (aZ _ ?_));refine cD fw ?_;(try simp only[aV,aX]);refine bh.mk (j+1) ⟨aa,fun i hi aO=>?_⟩ aa ?_
    .by_cases h:i=j
     .subst h;exact sj
     .exact mW i hi aa
    refine bt (Aq fw @ia)
  .refine b5 (aF _ ?_);have Kx:=vf (p:=fun x:Int=>L.getD x.toNat false) (l:=xs) fun i hi=>mW i hi aa;rw[Kx];refine ae fw [4] [8,14,46] ?_;exact aU (Aq fw @ia)
end Go.Proofs.YtoohljflflnbeaaGreatDoor
namespace Go.Av
section
variable {P:Program} {T:Ty} {Mv X:Nat->Prop} {G:ay} {N:Fr} {ops:Array Oper} {σ:St}
def Ib (P:Program) (T:Ty) (Mv:Nat->Prop) (G:ay) (N:Fr) (qc:List Nat) (ops:Array Oper) (i:Nat) (o:Oper) (σ aG:St):Prop:=
 (qc.contains i=true/\eI N o/\o.guard=none/\∃ c g xs y,dP o.op=some c/\kr G σ.env c=some (g,xs)/\HC P G [] g xs σ.H (.d y) σ.H/\aG=⟨aL σ.env o.dst (.d y),σ.H⟩)\/
 (qc.contains i=false/\qk P T Mv G N [] [] [] [] ops i o σ aG)
def EO (qc:List Nat) (ops:Array Oper) (i j:Nat) (oi oj:Oper):Bool:=
 if qc.contains i then !qc.contains j && decide (kindOf oj.op<=1) && oi.apart ops oj else if qc.contains j then decide (kindOf oi.op<=1) && oi.apart ops oj else BS [] [] [] ops i j oi oj
theorem ad4 (hg:Good P T) (qc:List Nat):Sound P X G N Mv (Ib P T Mv G N qc ops) ops:=fun i o ho σ aG h w μ a hi Q K hk=>by
 rcases h with⟨_,hd,de,c,g,xs,y,hc,ht,fh,rfl⟩ | ⟨_,h⟩
 .have fm:∀ d,o.dst=some d->d < N.n:=fun d e=>by unfold eI at hd;rw[e]at hd;exact hd
  unfold wpOpIn;simp only[ho];rw[tS hi (k7 de),if_pos rfl];refine (B3 (Mv:=Mv) (K:=fun aT=>aT=⟨aL σ.env o.dst (.d y),σ.H⟩) hg hi fm ?_ fun w' aI a' aT e aO aW=>hk w' aI a' (e ▸ aO) aW);unfold mH;simp only[hc,ht]
  exact (fh Mv X N σ.env (fun r hr=>by cases hr) (fun r hr=>by cases hr)).mono fun x aG ⟨e1,e2⟩=>by rw[e1,e2]
 .exact GU hg [] [] [] [] i o ho _ _ h w μ a hi hk
theorem Sm {i:Nat} {o:Oper} {σ aG:St} (hk:kindOf o.op<=1) (h:qk P T Mv G N [] [] [] [] ops i o σ aG):eI N o/\o.guard=none/\∃ x,Ex P T Mv G o σ.env σ.H x σ.H/\aG=⟨aL σ.env o.dst x,σ.H⟩:=by
 obtain⟨hd,de,_,h⟩:=h
 rcases h with⟨b,_⟩ | ⟨_,b,_⟩ | ⟨_,_,k1,_,x,H',e1,_,rfl⟩
 .cases b
 .cases b
 .obtain rfl:=e1.keeps aa;exact⟨hd,de,x,e1,rfl⟩
theorem Sl {i:Nat} {o:Oper} {e:Env} {H:Heap} {x:AV} (hk:kindOf o.op<=1) (hd:eI N o) (de:o.guard=none) (h:Ex P T Mv G o e H x H):qk P T Mv G N [] [] [] [] ops i o ⟨e,H⟩ ⟨aL e o.dst x,H⟩:=
 ⟨hd,de,(fun r hr=>by cases hr),.inr (.inr ⟨rfl,rfl,aa,(by simp[pd,List.lookup]),x,H,h,(fun r hr=>by cases hr),rfl⟩)⟩
theorem ad5 (qc:List Nat):vC (Ib P T Mv G N qc ops) (EO qc ops) ops:=fun i j oi oj gL fe hc σ aT gU h1 h2=>by
 unfold EO at hc;have tg:∀ {o:Oper} {c:Call} {e e':Env},dP o.op=some c->gq o.op e e'->kr G e c=kr G e' c:=fun {o c e e'} hc ha=>zk fun t ht=>ha t (by rw[(vg hc).1];exact ht)
 have fact:∀ (eu:oi.apart ops oj=true),(∀ v,gq oj.op (aL σ.env oi.dst v) σ.env)/\(∀ v,gq oi.op σ.env (aL σ.env oj.dst v))/\_:=fun eu=>
  ⟨fun v t ht=>(je eu (e:=σ.env) (v:=v)).1 t (kK ht),fun v t ht=>((je eu (e:=σ.env) (v:=v)).2.1 t (kK ht)).symm,(je eu (e:=σ.env) (v:=da)).2.2⟩
 rcases h1 with⟨ai,di,gi,c,g,xs,y,ci,ti,cA,rfl⟩ | ⟨ai,h1⟩
 .rw[if_pos ai]at hc;simp only[IT,akP,decide_eq_true_eq]at hc;obtain⟨⟨aj,kj⟩,eu⟩:=hc;obtain⟨eU,fB,bf⟩:=fact eu
  rcases h2 with⟨bj,_⟩ | ⟨_,h2⟩
  .rw[aj]at bj;cases bj
  obtain⟨dj,gj,z,e2,rfl⟩:=Sm kj h2;have e3:Ex P T Mv G oj σ.env σ.H z σ.H:=e2.congr aa (eU _);refine⟨⟨aL σ.env oj.dst z,σ.H⟩,.inr ⟨aj,Sl kj dj gj e3⟩,.inl ⟨ai,di,gi,c,g,xs,y,ci,?_,cA,?_⟩⟩
  .rw[<- tg ci (fB z)];exact ti
  .dsimp only;rw[ig bf]
 .rw[if_neg (by rw[ai];decide)]at hc
  rcases h2 with⟨bj,dj,gj,c,g,xs,y,cj,tj,cA,rfl⟩ | ⟨bj,h2⟩
  .rw[if_pos bj]at hc;simp only[IT,decide_eq_true_eq]at hc;obtain⟨ki,eu⟩:=hc;obtain⟨eU,fB,bf⟩:=fact eu;obtain⟨di,gi,z,e1,rfl⟩:=Sm ki h1;have e3:Ex P T Mv G oi (aL σ.env oj.dst (.d y)) σ.H z σ.H:=e1.congr aa (fB _);refine⟨⟨aL σ.env oj.dst (.d y),σ.H⟩,.inl ⟨bj,dj,gj,c,g,xs,y,cj,?_,cA,rfl⟩,.inr ⟨ai,?_⟩⟩
   .rw[<- tg cj (eU z)];exact tj
   .dsimp only;rw[ig bf];exact Sl ki di gi e3
  .rw[if_neg (by rw[bj];decide)]at hc;obtain⟨jl,f1,f2⟩:=L0 [] [] [] [] i j oi oj gL fe hc σ aT gU h1 h2;exact⟨jl,.inr ⟨bj,f1⟩,.inr ⟨ai,f2⟩⟩
theorem Ks {a b:List (Nat×Row)} (h1:∀ p∈a,List.lookup p.1 a=List.lookup p.1 b) (h2:∀ p∈b,List.lookup p.1 a=List.lookup p.1 b):aq a=aq b:=by
 funext q;unfold aq
 have tK:∀ (l:List (Nat×Row)),(∀ p∈l,p.1≠q)->List.lookup q l=none:=by
  intro l
  induction l with
  | nil=>intro _;rfl
  | cons p l ih=>
   intro h;rw[List.lookup_cons]
   have:(q == p.1)=false:=by
    rw[beq_eq_false_iff_ne];exact fun e=>h p ak e.symm
   rw[this];exact ih fun p hp=>h p (by simp[hp])
 by_cases ha:∃ p∈a,p.1=q
 .obtain⟨p,hp,rfl⟩:=ha;exact h1 p hp
 .by_cases hb:∃ p∈b,p.1=q
  .obtain⟨p,hp,rfl⟩:=hb;exact h2 p hp
  .rw[tK a fun p hp e=>ha ⟨p,hp,e⟩,tK b fun p hp e=>hb ⟨p,hp,e⟩]
def Gb (P:Program) (G:ay) (g:FuncId) (xs:List AV) (σ:St) (dst:Option Tmp) (K:St->Prop):Prop:=∃ y,HC P G [] g xs σ.H (.d y) σ.H/\K ⟨aL σ.env dst (.d y),σ.H⟩
theorem Gb.mc {dst:Option Tmp} {K:St->Prop} {fx:List Nat} {g:FuncId} {nP xs:List AV} {b6:List (Nat×Row)} {y:D} (hc:MC P G fx g xs (aq b6) (.d y) (aq b6)) (hx:nP.map (AV.tr (fA (b6.map (·.1))) (fy (b6.map (·.1))))=xs)
  (hH:∀ p∈b6,(σ.H p.1).map (Row.tr (fA (b6.map (·.1))) (fy (b6.map (·.1))))=aq b6 p.1) (hd:∀ p∈b6,(b6.map (·.1)).contains p.1=true\/σ.H p.1=none) (hm:∀ r∈b6.map (·.1),fx.contains r=false->r∈([]:List Nat))
  (hj:nC (aq b6) (eM (fT (b6.map (·.1))) (ni (b6.map (·.1)) fx) (nh (b6.map (·.1)) fx) σ.H)=σ.H)
  (h:K ⟨aL σ.env dst (.d y),σ.H⟩):Gb P G g nP σ dst K:=by
 refine⟨y,?_,h⟩;have:=HC.mc (mvd:=[]) (H:=σ.H) hc hx hH hd hm;rw[hj]at this;exact this
def Ed (P:Program) (T:Ty) (Mv:Nat->Prop) (G:ay) (N:Fr) (qc:List Nat) (ops:Array Oper) (i:Nat) (o:Oper) (σ:St) (K:St->Prop):Prop:=
 if qc.contains i=true then eI N o/\o.guard=none/\match dP o.op with
  | some c=>match kr G σ.env c with
   | some (g,xs)=>Gb P G g xs σ o.dst K
   | none=>False
  | none=>False
 else Bs P T Mv G N [] [] [] [] ops i o σ K
def vv (P:Program) (T:Ty) (Mv:Nat->Prop) (G:ay) (N:Fr) (qc:List Nat) (ops:Array Oper) (K:St->Prop):List (Nat×Oper)->St->Prop
 | [],σ=>K σ
 | (i,o) :: rest,σ=>Ed P T Mv G N qc ops i o σ (vv P T Mv G N qc ops K rest)
theorem ahh {qc:List Nat} {K:St->Prop}:∀ (l:List Nat) (σ:St),(∀ i∈l,i < ops.size)->vv P T Mv G N qc ops K (bU ops l) σ->∃ cq,K cq/\iJ (Ib P T Mv G N qc ops) ops l σ cq:=by
 intro l
 induction l with
 | nil=>intro σ _ h;exact⟨σ,h,rfl⟩
 | cons i l ih=>
  intro σ hl h;have hi:=hl i ak
  have ho:ops[i]? = some ops[i]:=by simp[hi]
  have aO:bU ops (i :: l)=(i,ops[i]) :: bU ops l:=by simp[bU,hi]
  rw[aO]at h;have h:Ed P T Mv G N qc ops i ops[i] σ (vv P T Mv G N qc ops K (bU ops l)):=h;unfold Ed at h;split at h
  .rename_i ha;obtain⟨hd,de,h⟩:=h;split at h
   .rename_i c hc;split at h
    .rename_i g xs ht;obtain⟨y,cA,h⟩:=h;obtain⟨cq,hk,hr⟩:=ih _ (fun j hj=>hl j (by simp[hj])) h;exact⟨cq,hk,_,ho,_,.inl ⟨ha,hd,de,c,g,xs,y,hc,ht,cA,rfl⟩,hr⟩
    .exact h.elim
   .exact h.elim
  .rename_i ha
   have CG:bU ops [i]=[(i,ops[i])]:=by simp[bU,hi]
   have hm:zj P T Mv G N [] [] [] [] ops (vv P T Mv G N qc ops K (bU ops l)) (bU ops [i]) σ:=by rw[CG];exact h
   obtain⟨aT,bQ,o',pT,El,hs,pV⟩:=Nc [i] σ (by simpa using hi) (fun r hr=>by cases hr) hm;have pV:El=aT:=pV;subst pV;obtain⟨cq,hk,hr⟩:=ih _ (fun j hj=>hl j (by simp[hj])) bQ;exact⟨cq,hk,o',pT,_,.inr ⟨by simpa using ha,hs⟩,hr⟩
theorem Vw (hg:Good P T) (hm:P.follows .mixedOrders=true) (qc:List Nat) (ord:List Nat) {id:Nat} (bX:oH (EO qc ops) ord ops=true) {Q:Exit->St->Prop} (h:vv P T Mv G N qc ops (fun aG=>Q .normal aG) (bU ops ord) σ):AW P Mv X G N (.region id ops true) Q σ:=
 vA hm (ad4 hg qc) (ad5 qc) ord bX fun aH=>ahh ord σ aH h
theorem VB (hg:Good P T) (hm:P.follows .mixedOrders=true) (qc:List Nat) (ord:List Nat) {id:Nat} (bX:oH (EO qc ops) ord ops=true) {Q:Exit->St->Prop}
  (h:∀ K:St->Prop,(∀ τ:St,Q .normal τ->K τ)->vv P T Mv G N qc ops K (bU ops ord) σ):AW P Mv X G N (.region id ops true) Q σ:=Vw hg hm qc ord bX (h _ fun _ h=>h)
theorem Nd {qc:List Nat} {K:St->Prop} {i:Nat} {l:List Nat} {o:Oper} (ho:ops[i]? = some o) (h:∀ K':St->Prop,(∀ τ,vv P T Mv G N qc ops K (bU ops l) τ->K' τ)->Ed P T Mv G N qc ops i o σ K'):vv P T Mv G N qc ops K (bU ops (i :: l)) σ:=by
 have:bU ops (i :: l)=(i,o) :: bU ops l:=by simp[bU,ho]
 rw[this];exact h _ fun _ h=>h
theorem ahg {qc:List Nat} {K:St->Prop} (h:K σ):vv P T Mv G N qc ops K (bU ops []) σ:=h
end
attribute [simp] Ed
end Go.Av
namespace Go.Proofs.YtoohljflflnbeaaGreatDoor
open Go.Av
def pD (L:List Bool) (s:Nat):List Bool:=L.take s ++ List.replicate (L.length - s) false
theorem zR {L:List Bool} {s:Nat} (h:s<=L.length):(pD L s).length=L.length:=by simp[pD];omega
theorem Yn (L:List Bool):pD L 0=List.replicate L.length false:=by simp[pD]
theorem Yl (L:List Bool):pD L L.length=L:=by simp[pD]
theorem Ym {L:List Bool} {s:Nat} (h:s < L.length):(pD L s).set s L[s]=pD L (s+1):=by
 refine I9 (d:=false) (by rw[List.length_set,zR aa,zR aa]) fun i hi=>?_;rw[List.length_set,zR aa]at hi
 have at':∀ k,k<=L.length->(pD L k).getD i false=if i < k then L[i] else false:=fun k hk=>by
  rw[dV (by rw[zR hk];exact hi)];unfold pD;by_cases h:i < k
  .rw[List.getElem_append_left (by rw[ajW];omega),if_pos h];simp
  .rw[List.getElem_append_right (by rw[ajW];omega),if_neg h];simp
 by_cases e:s=i
 .subst e;rw[kb (by rw[zR aa];exact h),at' _ aa,if_pos aa]
 .rw[gw e,at' _ aa,at' _ aa];by_cases h2:i < s
  .rw[if_pos h2,if_pos aa]
  .rw[if_neg h2,if_neg aa]
def j8 (TN:List (List Int)) (z k:Nat):List AV:=(List.range k).map fun i=>.d (.sl none ((gO TN z i).map fun b=>[.v (.bool b)]))
theorem fY (TN:List (List Int)) (z k:Nat):(j8 TN z k).length=k:=by simp[j8]
theorem eV (TN:List (List Int)) (z k:Nat) (o f:Nat->Nat->Nat->AV):(j8 TN z k).map (AV.tr o f)=j8 TN z k:=by
 unfold j8;rw[ajN];rfl
theorem fX (TN:List (List Int)) (z k r:Nat):(j8 TN z k).map (AV.kill r)=j8 TN z k:=by
 unfold j8;rw[ajN];rfl
theorem WO (TN:List (List Int)) (z k:Nat):j8 TN z (k+1)=j8 TN z k ++ [.d (.sl none ((gO TN z k).map fun b=>[.v (.bool b)]))]:=by
 unfold j8;rw[List.range_succ,akj];rfl
theorem Ot {TN:List (List Int)} {z k i:Nat} (h:i < k):∀ h2:i < (j8 TN z k).length,(j8 TN z k)[i] = .d (.sl none ((gO TN z i).map fun b=>[.v (.bool b)])):=fun h2=>by simp[j8]
def jw:AV:=.d (.sl (some false) [])
theorem eT (o f:Nat->Nat->Nat->AV):AV.tr o f jw=jw:=rfl
theorem iH (r:Nat):AV.kill r jw=jw:=rfl
theorem Mc (m:Nat) (o f:Nat->Nat->Nat->AV):(List.replicate m jw).map (AV.tr o f)=List.replicate m jw:=by rw[ake];rfl
theorem acX (m r:Nat):(List.replicate m jw).map (AV.kill r)=List.replicate m jw:=by rw[ake];rfl
theorem adu {TN:List (List Int)} {z kk m N:Nat}:xl (j8 TN z (kk+1) ++ .own 73 0 N :: List.replicate m jw) (kk+1+1+m) kk N (gO TN z kk):=by
 refine⟨by simp[fY];omega,aa,fun h=>?_,fun o f ho=>?_,fun r hr=>?_⟩
 .rw[List.getElem_append_left (by rw[fY];omega)];exact Ot aa _
 .rw[akj,aj6,eV,Mc];show _ ++ o 73 0 N :: _=_;rw[ho]
 .rw[akj,aj6,fX,acX];show _ ++ (if 73=r then AV.dead else .own 73 0 N) :: _=_;rw[if_neg (fun e=>hr e.symm)]
theorem adv {TN:List (List Int)} {z d kk N:Nat} (h:kk < d+1):xl (j8 TN z (d+1)) (d+1) kk N (gO TN z kk):=
 ⟨fY _ _ _,h,fun h2=>Ot h h2,fun o f _=>eV _ _ _ o f,fun r _=>fX _ _ _ r⟩
def zI (l:List Int):D:=if l=[] then .sl (some false) [] else .sl (some true) (l.map fun n=>[.v (.int .i64 n)])
theorem IM {l:List Int} (h:l=[]):zI l = .sl (some false) []:=if_pos h
theorem EU {l:List Int} (h:l≠[]):zI l = .sl (some true) (l.map fun n=>[.v (.int .i64 n)]):=if_neg h
end Go.Proofs.YtoohljflflnbeaaGreatDoor
namespace Go.Av
section
variable {P:Program} {T:Ty} {Mv X:Nat->Prop} {G:ay} {N:Fr}
theorem aM.Ys (hm:∀ r,Mv r) (i:Nat) {ob:Nat} {e:Env} {ty n:Nat} {cs:List D} {H:Heap} (hi:e i=some (.own ob 0 n)) (hb:H ob=some (.box ty (cs.map AV.d))) (hn:cs.length=n) :
  aM Mv X G N ⟨e,H⟩ ⟨Go.Av.bp [(i,.d (.sl none (cs.map fun c=>[c])))],jj⟩:=fun w μ a aO=>by
 have hX:∀ b,XX X (fun _=>none) b->XX X μ b:=fun b hb=>hb.elim .inl fun ⟨_,_,h,_⟩=>by cases h
 refine⟨fun _=>none,⟨eA.none aO.bq.fits,⟨aO.env.defers,aO.env.size,fun j x hx=>?_⟩,fun g x hx=>(aO.jf g x hx).sub hX⟩,⟨ajJ _,rfl,rfl,rfl,fun b hb hr=>⟨rfl,fun ⟨_,_,h,_⟩=>by cases h⟩,fun r _ _ hn=>absurd (hm r) hn⟩⟩;replace hx:Go.Av.bp [(i,_)] j=some x:=hx;simp only[Go.Av.bp,List.lookup]at hx;split at hx
 .rename_i hj
  have c6:j=i:=by simpa using hj
  subst c6;obtain rfl:=AI hx;obtain⟨u,hu,gM⟩:=aO.env.slot j _ hi;refine⟨u,hu,.d ?_⟩;obtain⟨m,rE,hh⟩:=gM.lF
  rcases hh with⟨_,rfl,_,rfl⟩ | ⟨b,FL,rfl,kC⟩
  .obtain rfl:=aj2 hn;exact .nil ak
  .obtain⟨m',cF,ok⟩:=aO.bq.rows ob _ hb;rw[rE]at cF;obtain rfl:=AI cF
   cases ok with
   | box h1 h2 h3 h4 h5 h6 h7=>
    rename_i b' cur;rw[FL]at h1;obtain rfl:=AI h1;simp only[aki]at h5;by_cases u4:n=0
    .subst u4;obtain rfl:=aj2 hn;exact .empty ak (by unfold maxLen at *;omega)
    .refine .sl (sz:=1) (f:=fun i _=>cur.getD i undef) ak (by simp[hn]) aa (by unfold maxLen at *;omega) (fun hx=>hx.elim (aO.bq.frame ob m b rE FL) fun ⟨_,_,h,_⟩=>by cases h) ak aa aa (fun i j hi hj=>?_) fun i j el c ba hc=>?_
     .have:j=0:=aa
      subst this;rw[cell_of_row w b _ cur ty (0,0) (by simpa using h4)];simp[ajF,show i < cur.size by omega]
     .rw[ajK]at ba;obtain⟨a',Zt,rfl⟩:=AS.1 ba;obtain⟨aH,rfl⟩:=BY.1 Zt
      cases j with
      | succ j=>simp at hc
      | zero=>
       simp only[List.getElem?_cons_zero,IS]at hc;subst hc
       have uR:cur[i]? = some (cur.getD i undef):=by simp[ajF,show i < cur.size by omega]
       have aaT:=h6 i _ (.d cs[i]) uR (by simp[aH]);exact aaT.data.sub fun b hb=>hX b hb
 .cases hx
end
end Go.Av
namespace Go.Av
section
variable {P:Program} {T:Ty} {Mv X:Nat->Prop} {G:ay} {N:Fr} {w:World} {μ:Mu} {a:Act} {σ:St}
def Dq:Op->Bool
 | .buildSlice _ n ps=>n == 0 && ps.size == 0
 | _=>false
def M5 (T:Ty) (t:TypeId):Bool:=match T t with
 | some tt=>(match tt.desc with
  | .slice e=>(T e).isSome
  | _=>false)
 | none=>false
def BX (T:Ty) (o:Oper) (σ:St) (K:St->Prop):Prop:=match o.op,o.dst with
 | .buildSlice t _ _,some d=>M5 T t=true/\K ⟨gS σ.env d (.d (.sl (some true) [])),σ.H⟩
 | _,_=>False
theorem XJ (hg:Good P T) (hi:In w X G μ N a σ) {o:Oper} {K:St->Prop} (hd:∀ d,o.dst=some d->d < N.n) (he:Dq o.op=true) (h:BX T o σ K) {Q:Exit->Act->World->Prop} {next:Act->World->Prop}
  (hk:∀ w' aI a' aG,K aG->In w' X G aI N a' aG->Ev Mv w μ w' aI->next a' w'):o.wpIn (wd N.ro) 0 P a w next Q:=by
 obtain⟨dst,op,type,pos,after,guard⟩:=o;unfold BX at h;dsimp only at h hd he;split at h
 .rename_i t n ps d;obtain⟨ht,hK⟩:=h;simp only[Dq,IT,beq_iff_eq]at he;obtain⟨rfl,ff⟩:=he;obtain rfl:=Array.eq_empty_of_size_eq_zero ff;unfold M5 at ht;split at ht
  .rename_i tt du;split at ht
   .rename_i e dG;obtain⟨te,cQ⟩:=akw.1 ht;have hu:=hg.da (w:=w) du;have bd:=hg.sizeOf (w:=w) cQ;refine xf (fun c e=>by cases e) ?_;unfold Oper.wp
    have e0:∀ f:Nat->Value,(Array.range 0).map f = #[]:=fun f=>by apply Array.ext<;>simp
    have hex:(execOp a.eval (⟨some d,.buildSlice t 0 #[],type,pos,after,guard⟩:Oper)).run P w = .ok (.value (.slice (some ⟨w.heap.size,0,none⟩) 0 0)) (w.alloc (.cells #[] e)):=by
     simp[execOp,Instr.buildSlice,Sem.run_bind,hu,dG,Result.andThen_ok,bd,e0,newRow,Instr.fill]
    rw[hex];obtain⟨h1,h2⟩:=hi.qt (Mv:=Mv) (cN.alloc w (.cells #[] e));exact hk _ μ _ _ hK (h1.put (.d (.empty ak bF)) (dst:=some d) hd) h2
   .cases ht
  .cases ht
 .exact h.elim
def xa (P:Program) (T:Ty) (Mv X:Nat->Prop) (G:ay) (N:Fr) (ops:Array Oper) (K:St->Prop):List Oper->St->Prop
 | [],σ=>K σ
 | o :: rest,σ=>eI N o/\match jb ops σ.env o with
  | some b=>if b=true then (if Dq o.op=true then BX T o σ (xa P T Mv X G N ops K rest) else sV P T Mv X G N o σ (xa P T Mv X G N ops K rest)) else xa P T Mv X G N ops K rest ⟨aL σ.env o.dst da,σ.H⟩
  | none=>False
theorem ag2 (hg:Good P T) {ops:Array Oper} {Q:Exit->St->Prop} {w0:World} {lh:Mu}:∀ (l:List Oper) (k:Nat) (w:World) (μ:Mu) (a:Act) (σ:St),(∀ j,l[j]? = ops[k+j]?)->xa P T Mv X G N ops (fun aG=>Q .normal aG) l σ->In w X G μ N a σ->Ev Mv w0 lh w μ->
  wpOpsIn (wd N.ro) 0 P ops (After Mv X G N w0 lh Q) (List.range' k l.length) a w:=by
 intro l
 induction l with
 | nil=>intro k w μ a σ _ h hi aW;exact⟨μ,σ,h,hi,aW⟩
 | cons o l ih=>
  intro k w μ a σ hl h hi aW
  have h0:ops[k]? = some o:=by simpa using (hl 0).symm
  have fo:∀ j,l[j]? = ops[k+1+j]?:=fun j=>by have:=hl (j+1);simpa[akv,ala 1 j]using this
  obtain⟨hd,h⟩:=h
  have fm:∀ d,o.dst=some d->d < N.n:=fun d e=>by unfold eI at hd;rw[e]at hd;exact hd
  rw[ajP,alq];simp only[wpOpsIn,h0];split at h
  .rename_i b hb;rw[tS hi hb];split at h
   .rename_i qz;subst qz;rw[if_pos rfl];split at h
    .rename_i he;exact XJ hg hi fm he h fun w' aI a' aG k' aO mb=>ih (k+1) w' aI a' aG fo k' aO (aW.trans mb)
    .exact (E4 hg hi fm h fun w' aI a' aG k' aO mb=>ih (k+1) w' aI a' aG fo k' aO (aW.trans mb))
   .rename_i pI;rw[if_neg (by simpa using pI)];exact⟨fun _ _=>trivial,ih (k+1) w μ _ _ fo h (hi.put (.d (.v _)) fm) aW⟩
  .exact h.elim
theorem VA (hg:Good P T) (l ns:List Nat) (hM:∀ r,ns.contains r=false->Mv r) {id:Nat} {ops:Array Oper} {y:Code} {Q:Exit->St->Prop} (h:∀ K:St->Prop,(∀ τ:St,AW P Mv X G N y Q (τ.norm l ns)->K τ)->xa P T Mv X G N ops K ops.toList σ):AW P Mv X G N (.seq (.region id ops false) y) Q σ:=
 sK fun w μ a hi=>by
  refine wpIn_region ?_;have:=ag2 hg ops.toList 0 w μ a σ ak (h (fun aG=>aV (AW P Mv X G N y Q) Q .normal aG) fun _ h=>h.norm l ns hM) hi (.refl _ w μ)
  rwa [<- alg,aj8]at this
def UA (P:Program) (T:Ty) (Mv X:Nat->Prop) (G:ay) (N:Fr) (ops:Array Oper) (o:Oper) (σ:St) (K:St->Prop):Prop:=eI N o/\match jb ops σ.env o with
 | some b=>if b=true then (if Dq o.op=true then BX T o σ K else sV P T Mv X G N o σ K) else K ⟨aL σ.env o.dst da,σ.H⟩
 | none=>False
theorem ag0 {ops:Array Oper} {K:St->Prop} {o:Oper} {l:List Oper} (h:∀ K':St->Prop,(∀ τ,xa P T Mv X G N ops K l τ->K' τ)->UA P T Mv X G N ops o σ K'):xa P T Mv X G N ops K (o :: l) σ:=h _ fun _ h=>h
theorem ag1 {ops:Array Oper} {K:St->Prop} (h:K σ):xa P T Mv X G N ops K [] σ:=h
end
attribute [simp] UA Dq BX M5
end Go.Av
namespace Go.Proofs.YtoohljflflnbeaaGreatDoor
open Go.Av
theorem Wq {a b:List Int} {n:Nat} (h1:n < a.length) (h2:n < b.length):gk (a.drop n) (b.drop n)=if a[n]=b[n] then gk (a.drop (n+1)) (b.drop (n+1)) else decide (a[n] < b[n]):=by
 rw[aj4 h1,aj4 h2,gk]
theorem Ws {a b:List Int} {n:Nat} (h1:¬ n < a.length):gk (a.drop n) (b.drop n)=false:=by
 rw[show a.drop n=[] from akr aa];cases b.drop n<;>rfl
theorem Wt (G:ay) (k1 k2:Option Bool) (a b:List Int) (hl:a.length=b.length) (ha:a.length < 2^60):aD prog G 133 [.sl k1 (a.map fun n=>[.v (.int .i64 n)]),.sl k2 (b.map fun n=>[.v (.int .i64 n)])] (.v (.bool (gk a b))):=by
 refine aD.aQ (aC _) func133 rfl rfl (rs:=[.tmp 4]) results133 (by simp[ntmps133]) fun X=>?_;simp only[ntmps133,List.map];refine aB [0,1] [] ?_;refine ag fun K1 aF=>aB [0,1,7,8] [] ?_;refine cG (S:=Nat) (fun n=>n<=a.length/\gk (a.drop n) (b.drop n)=gk a b) (fun n=>⟨bp [(0,.d (.sl k1 (a.map fun n=>[.v (.int .i64 n)]))),(1,.d (.sl k2 (b.map fun n=>[.v (.int .i64 n)]))),(7,int a.length),(8,int n)],aq []⟩) (fun n=>a.length - n) 0 ?_ ak ?_
 .refine df
 .rintro n ⟨hn,hp⟩;refine aB [0,1,7,8,9] [] ?_;refine ag fun K2 aw=>?_;by_cases aH:n < a.length
  .have sq:n < b.length:=aa
   rw[Wq aH sq]at hp;generalize hx:a[n]=x at *;generalize hy:b[n]=y at *;refine b8 (by simp<;>omega) ?_;refine ar (aw _ (ag fun K3 aZ=>bg (aB [0,1,5,7,8] [] ?_)));by_cases he:x=y
   .rw[if_pos he]at hp;have qf:=(Aq @aH (Aq @sq (Aq @hx (Aq @hy @he))));refine iz [0,1,5,7,8,19] [] ?_;refine b9 (by simp[he]) (ar (aZ _ ?_));refine dN ?_;(try simp only[aV,aX]);refine bh.mk (n+1) ⟨aa,hp⟩ aa ?_;refine df
   .rw[if_neg he]at hp;have qf:=(Aq @aH (Aq @sq (Aq @hx (Aq @hy @he))));refine iz [0,1,5,7,8,19] [] ?_;refine b8 (by simp[he]) ?_;have qf:=(Aq @aH (Aq @sq (Aq @hx @hy)));refine iz [4] [] ?_;exact aU @hp
  .rw[Ws aH]at hp;refine b9 (by simp<;>omega) ?_;refine b5 (aF _ (aB [4] [] ?_));exact aU @hp
def oM (t:Nat) (l:List Int):D:=if t=0 then .sl (some true) [] else zI l
def lL (q:Nat->List Int) (n:Nat):List AV:=(List.range n).map fun t=>.d (oM t (q t))
theorem tW (q:Nat->List Int) (n:Nat):(lL q n).length=n:=by simp[lL]
theorem Ek {q:Nat->List Int} {n t:Nat} (h:t < n):∀ h2:t < (lL q n).length,(lL q n)[t] = .d (oM t (q t)):=fun h2=>by simp[lL]
theorem xj (q:Nat->List Int) (n:Nat) (o f:Nat->Nat->Nat->AV):(lL q n).map (AV.tr o f)=lL q n:=by
 unfold lL;rw[ajN];rfl
theorem xh (q:Nat->List Int) (n r:Nat):(lL q n).map (AV.kill r)=lL q n:=by
 unfold lL;rw[ajN];rfl
theorem aip (n:Nat):AV.d (.sl (some true) []) :: List.replicate n jw=lL (fun _=>[]) (n+1):=by
 unfold lL;rw[List.range_succ_eq_map,aj6,ajN];congr 1;refine alo ak fun i h1 h2=>?_;simp[oM,zI,jw]
theorem aio {q:Nat->List Int} {n t:Nat} {p:List Int} (h:t < n) (h0:t≠0):(lL q n).set t (.d (zI p))=lL (fun z=>if z=t then p else q z) n:=by
 refine alo (by simp[lL]) fun i h1 h2=>?_;simp only[List.length_set,tW]at h1;rw[List.getElem_set,Ek h1];by_cases e:t=i
 .subst e;rw[if_pos rfl,Ek h1,if_pos rfl,oM,if_neg h0]
 .rw[if_neg e,Ek h1,if_neg (akI e)]
theorem ain (q:Nat->List Int) (n:Nat):lL q n=((List.range n).map fun t=>oM t (q t)).map AV.d:=by
 unfold lL;rw[ajN];rfl
def vy (q:Nat->List Int) (n:Nat):D:=.sl none ((List.range n).map fun t=>[oM t (q t)])
noncomputable def tU (TN:List (List Int)) (t:Nat):List Int:=if 0 < (fZ TN).getD t 0 then ek TN t ((fZ TN).getD t 0).toNat 0 else []
theorem ah4 {TN:List (List Int)} (ht:nr TN) {q:Nat->List Int} {d:Nat} (hd:TN.length<=d) (h:j1 TN (fZ TN) q d 0 0):vy q TN.length=vy (tU TN) TN.length:=by
 unfold vy;congr 1;refine List.map_congr_left fun t fR=>?_;have gD:=akW.1 fR;have Qd:=O1 ht t gD;have hF:=sW ht;congr 1;unfold oM tU;by_cases h0:t=0
 .rw[if_pos h0,if_pos h0]
 .rw[if_neg h0,if_neg h0];by_cases hp:0 < (fZ TN).getD t 0
  .rw[if_pos hp,h.low t gD hp aa]
  .rw[if_neg hp,h.high t gD (by
    by_cases e:(fZ TN).getD t 0=0
    .exact absurd (hF.one t gD e) h0
    .omega)]
theorem aif (G:ay) (p:aS) (bn:c8 p=none) (qD:(bA p).length<=6) (hP:bZ (bO p)<=4096):aD prog G 56 [uz p] (vy (tU (bl p)) (bl p).length):=by
 have ht:=Bu bn;have o3:=ht.pos;have fR:=ht.mem;have hF:=sW ht;have ml:=U8 G p bn qD hP;have hlen:=sC p;have qF:0 < bZ (bO p):=oJ fun x hx=>(nJ (iB bn) hx).m2;have s5:∀ q d,(bl p).length<=d->j1 (bl p) (fZ (bl p)) q d 0 0->vy q (bl p).length=vy (tU (bl p)) (bl p).length:=fun q d h1 h2=>ah4 ht h1 h2;have ga:∀ q d,j1 (bl p) (fZ (bl p)) q d (bl p).length 0->j1 (bl p) (fZ (bl p)) q (d+1) 0 0:=fun q d h=>adE ht hF h;have dD:∀ q d s i u (hu:u < (bl p).length),j1 (bl p) (fZ (bl p)) q d s i->(fZ (bl p)).getD u 0=(d:Int)->(u=0->ek (bl p) u d 0=[])/\(u≠0->q u=ek (bl p) u d 0):=fun q d s i u hu h hd=>adB hF h hu hd;have zW:=hF.len;have Jm:=hF.zero
 have wB:∀ s (h:s < (bl p).length),(bl p)[s].length<=64:=fun s h=>by
  rw[DH h,y6];have:=akR (n:=2) bF qD;omega
 have oT:=Bc (bl p)
 have kc:∀ s (h:s < (bl p).length),(fL (bl p))[s]? = some [fI (bl p)[s]]:=fun s h=>by simp[fL,h]
 have hcast:((bl p).length:Int)=bZ (bO p):=by rw[hlen];omega
 have PZ:=fun z d=>tT (bl p) z d 0;simp only[uz,sP,uq,cE,fI]at kc ml ⊢;rw[<- hcast]at ml ⊢
 have yh:(bl p).length<=4096:=aa
 generalize vy (tU (bl p)) (bl p).length=RES at *;generalize fZ (bl p)=F at *;generalize fL (bl p)=NX at *;generalize bl p=TN at *;clear hlen hcast qF hP ht hF;generalize pZ p=NI at *;generalize p.names.map bw=NN at *;generalize p.ax.map eo=RR at *;obtain⟨M,hM⟩:∃ M,TN.length=M+1:=⟨TN.length - 1,aa⟩;obtain⟨N,hN⟩:∃ N:Nat,TN.length=N:=⟨_,rfl⟩;rw[hN]at oT yh o3 hM zW;simp only[hN]at fR s5 ga ml ⊢
 have AB:∀ x:AV,List.replicate N x=x :: List.replicate M x:=fun x=>by rw[hM];rfl
 refine aD.aQ (aC _) func56 rfl rfl (rs:=[.tmp 2]) results56 (by simp[ntmps56]) fun X=>?_;simp only[ntmps56,List.map];have fw:=(Aq @xj (Aq @xh @tW));refine ae fw [0] [] ?_;refine ae (Aq fw (Aq @lZ.eq_1 (Aq @gg.eq_1 @gg.eq_2))) [0,3] [14] ?_;refine br fw ml [0,3,4] [14] ?_;refine AW.imp (aM.UP 14 rfl (by simp;omega)) ?_
 refine AW.st (τ:=⟨bp [(0,.d (.ip [.sl none NN,.sl none RR,.v (.int .i64 N),.v (.int .i64 NI),.sl none NX])),(3,.own 14 0 N),(4,.d (.sl none (F.map fun n=>[.v (.int .i64 n)])))],aq [(14,.box 41 (jw :: List.replicate M jw))]⟩) (by
  rw[<- AB];congr 1;simp only[Lh,ake]
  exact Ks (by simp[jw]) (by simp[jw])) ?_
 refine VA (aC _) [0,3,4] [14] aN fun K' ao=>?_;(repeat refine ag0 fun Kq af=>?_;simp[o3,Mc,eT];(repeat refine⟨aa,?_⟩);refine af _ ?_);refine ag1 (ao _ ?_);refine AW.st (by simp[Mc,eT];rfl) ?_;rw[aip M,<- hM];refine ag fun K1 aF=>ae fw [0,3,4,5] [14] ?_;refine cG (S:=Nat×(Nat->List Int)) (fun q=>q.1<=N/\j1 TN F q.2 q.1 0 0) (fun q=>⟨bp [(0,.d (.ip [.sl none NN,.sl none RR,.v (.int .i64 N),.v (.int .i64 NI),.sl none NX])),(3,.own 14 0 N),(4,.d (.sl none (F.map fun n=>[.v (.int .i64 n)]))),(5,int q.1)],aq [(14,.box 41 (lL q.2 N))]⟩) (fun q=>N - q.1) (0,fun _=>[]) ?_ ⟨by dsimp only;omega,adI⟩ ?_
 .refine bt fw
 .rintro⟨d,q⟩ ⟨hd,hI⟩;dsimp only at hd hI ⊢;refine ag fun K2 aw=>ae fw [0,3,4,5,25] [14] ?_;by_cases hdN:d < N
  .refine b8 (by simp<;>omega) ?_;refine ar (aw _ (ag fun K3 aZ=>bg (ae fw [0,3,4,5,31,32] [14] ?_)));refine cG (S:=Nat×(Nat->List Int)) (fun q=>q.1<=N/\j1 TN F q.2 d q.1 0) (fun q=>⟨bp [(0,.d (.ip [.sl none NN,.sl none RR,.v (.int .i64 N),.v (.int .i64 NI),.sl none NX])),(3,.own 14 0 N),(4,.d (.sl none (F.map fun n=>[.v (.int .i64 n)]))),(5,int d),(31,int N),(32,int q.1)],aq [(14,.box 41 (lL q.2 N))]⟩) (fun q=>N - q.1) (0,q) ?_ ⟨by dsimp only;omega,hI⟩ ?_
   .refine bt fw
   .rintro⟨s,q2⟩ ⟨hs,zX⟩;dsimp only at hs zX ⊢;refine ae fw [0,3,4,5,31,32,33] [14] ?_;refine ag fun K4 cr=>?_;by_cases aH:s < N
    .have o8:s < TN.length:=aa
     have AE:s < NX.length:=aa
     have o7:s < F.length:=aa
     have rz:NX[s]=[.sl none (TN[s].map fun n=>[.v (.int .i64 n)])]:=by
      have pG:=kc s o8;rw[AT AE]at pG;exact AI pG
     refine b8 (by simp<;>omega) ?_;refine ar (cr _ (ag fun K5 cg=>bg (ae fw [0,3,4,5,6,31,32] [14] ?_)));refine ag fun K6 eB=>?_;by_cases CD:F.getD s 0=(d:Int)
     .have Am:=CD;rw[dV o7]at Am;have cY:=fR _ (By o8);have fq:=wB s o8;have lX:=PZ s d;have qf:=(Aq fw (Aq @o7 @Am));refine au [0,3,4,5,6,31,32,40] [14] ?_;refine b9 (by simp<;>omega) ?_;refine ar (eB _ ?_);generalize hR:TN[s]=R at *;have qf:=(Aq fw (Aq @AE @rz));refine au [0,3,4,5,6,31,32,47,48,49] [14] ?_;refine cG (S:=Nat×(Nat->List Int)) (fun q=>q.1<=R.length/\j1 TN F q.2 d s q.1) (fun q=>⟨bp [(0,.d (.ip [.sl none NN,.sl none RR,.v (.int .i64 N),.v (.int .i64 NI),.sl none NX])),(3,.own 14 0 N),(4,.d (.sl none (F.map fun n=>[.v (.int .i64 n)]))),(5,int d),(6,int s),(31,int N),(32,int s),(47,.d (.sl none (R.map fun n=>[.v (.int .i64 n)]))),(48,int R.length),(49,int q.1)],aq [(14,.box 41 (lL q.2 N))]⟩) (fun q=>R.length - q.1) (0,q2) ?_ ⟨by dsimp only;omega,zX⟩ ?_
      .refine bt fw
      .rintro⟨i,q3⟩ ⟨hi,xK⟩;dsimp only at hi xK ⊢;refine ae fw [0,3,4,5,6,31,32,47,48,49,50] [14] ?_;refine ag fun K7 eO=>?_;by_cases dM:i < R.length
       .obtain⟨v0,v1⟩:=cY R[i] (By dM);obtain⟨u,hu⟩:=ajL v0
        have mY:u < N:=aa
        have AJ:u < F.length:=aa
        have Kh:i < TN[s].length:=by rw[hR];exact dM
        have JA:TN[s][i]=(u:Int):=by simp only[hR];exact hu
        obtain⟨P1,uM⟩:=dD q3 d s i s o8 xK CD;have cA:=tW q3 N;have Cx:=Ek (q:=q3) aH (by rw[cA];exact aH);have Ah:=Ek (q:=q3) mY (by rw[cA];exact mY)
        have JB:∃ kk,oM s (q3 s) = .sl kk ((ek TN s d 0).map fun n=>[.v (.int .i64 n)]):=by
         unfold oM;by_cases e:s=0
         .rw[if_pos e,P1 e];exact⟨_,rfl⟩
         .rw[if_neg e,uM e];by_cases e2:ek TN s d 0=[]
          .rw[IM e2,e2];exact⟨_,rfl⟩
          .rw[EU e2];exact⟨_,rfl⟩
        obtain⟨kk,JB⟩:=JB;rw[JB]at Cx;have aaU:=fun (p:List Int) (h0:u≠0)=>aio (q:=q3) (p:=p) mY h0;have q1:=SN (ek TN s d 0);have Tk:=one_one (ek TN s d 0)
        have F5:((ek TN s d 0).map fun n=>[D.v (.int .i64 n)]).length=d:=by simp[lX]
        have Az:((ek TN s d 0).map fun n=>[D.v (.int .i64 n)]) ++ [[D.v (.int .i64 (i:Int))]]=(ek TN s d 0 ++ [(i:Int)]).map fun n=>[D.v (.int .i64 n)]:=ak
        have eY:(ek TN s d 0 ++ [(i:Int)]).length=d+1:=by simp[lX]
        have mW:ek TN s d 0 ++ [(i:Int)]≠[]:=ak
        have KM:=fun (h1:F.getD u 0=(d:Int)+1) (h2:q3 u≠[])=>adD xK aa h1 h2;have hpo:=fun (h1:F.getD u 0≠(d:Int)+1)=>adF xK o8 Kh JA h1;have wA:=fun (h1:q3 u≠[]) (h2:gk (ek TN s d 0 ++ [(i:Int)]) (q3 u)=false)=>adC xK o8 Kh JA h1 h2;have C4:=fun (h1:F.getD u 0=(d:Int)+1) (h2:q3 u=[]\/gk (ek TN s d 0 ++ [(i:Int)]) (q3 u)=true)=>adJ xK o8 CD Kh JA aa h1 h2
        have hu0:F.getD u 0=(d:Int)+1->u≠0:=fun h e=>by subst e;omega
        generalize ek TN s d 0 ++ [(i:Int)]=PW at *;generalize ((ek TN s d 0).map fun n=>[D.v (.int .i64 n)])=PM at *;refine b8 (by simp<;>omega) ?_;refine ar (eO _ (ag fun K8 eX=>bg ?_));have qf:=(Aq fw (Aq @dM @hu));refine au [0,3,4,5,6,7,8,31,32,47,48,49] [14] ?_;refine rg [0,3,4,5,6,8,9,31,32,47,48,49] [14,54] aN fun K' ao=>?_;(repeat refine aK fun Kq af=>?_;simp[xj,xh,tW,cA,Cx,aH,F5,q1,Tk,sh];(repeat refine⟨aa,?_⟩);refine af _ ?_);refine bJ (ao _ (AW.st (by simp[xj,xh,tW,cA,Cx,aH,F5,q1,Tk,sh];rfl) ?_));simp only[Az]
        have pF:(PW.map fun n=>[D.v (.int .i64 n)]).length=d+1:=by simp[eY]
        have Zf:=EU mW;refine AW.imp (aM.freeze 54 trivial) ?_;refine AW.st (by simp[xj,xh,tW,pF,sh];rfl) ?_;refine AW.Mb 9 rfl ?_ (fun h=>absurd (List.map_eq_nil_iff.1 h) mW);refine AW.st bB ?_;by_cases x6:F.getD u 0=(d:Int)+1
        .have Gi:=hu0 x6;have wc:=x6;rw[dV AJ]at wc
         have ZK:oM u (q3 u)=zI (q3 u):=by unfold oM;rw[if_neg Gi]
         rw[ZK]at Ah;have Ge:=aaU PW Gi;rw[Zf,List.set_eq_take_append_cons_drop,if_pos (by rw[cA];exact mY)]at Ge;obtain⟨q4,Ga⟩:∃ q4:Nat->List Int,(fun z=>if z=u then PW else q3 z)=q4:=⟨_,rfl⟩;rw[Ga]at Ge C4;by_cases hq:q3 u=[]
         .have sg:=C4 x6 (.inl hq);rw[IM hq]at Ah;have qf:=(Aq fw (Aq @AJ (Aq @wc (Aq @cA (Aq @Ah @mY)))));refine au [0,3,4,5,6,8,9,31,32,47,48,49,84] [14] ?_;refine b8 (by simp<;>omega) ?_;have qf:=(Aq fw (Aq @cA @mY));refine e6 eX [0,3,4,5,6,31,32,47,48,49] [14] ?_;refine cD fw ?_;(try simp only[aV,aX]);refine bh.mk (i+1,q4) ⟨by dsimp only;omega,sg⟩ (by dsimp only;omega) ?_;dsimp only;rw[<- Ge];refine aM.dk aN (by simp[xj,xh,tW,alu,alk]) (by simp[xj,xh,tW,alu,alk])
         .have aiI:=KM x6 hq;have pI:=Wt G (some true) (some true) PW (q3 u) aa aa;rw[EU hq]at Ah
          cases hb:gk PW (q3 u) with
          | true=>
           have sg:=C4 x6 (.inr hb);rw[hb]at pI;have qf:=(Aq fw (Aq @AJ (Aq @wc (Aq @cA (Aq @Ah @mY)))));refine e7 pI [0,3,4,5,6,8,9,31,32,47,48,49,84] [14] ?_;refine b8 (by simp<;>omega) ?_;have qf:=(Aq fw (Aq @cA @mY));refine e6 eX [0,3,4,5,6,31,32,47,48,49] [14] ?_;refine cD fw ?_;(try simp only[aV,aX]);refine bh.mk (i+1,q4) ⟨by dsimp only;omega,sg⟩ (by dsimp only;omega) ?_;dsimp only;rw[<- Ge];refine aM.dk aN (by simp[xj,xh,tW,alu,alk]) (by simp[xj,xh,tW,alu,alk])
          | false=>
           have sg:=wA hq hb;rw[hb]at pI;have qf:=(Aq fw (Aq @AJ (Aq @wc (Aq @cA (Aq @Ah @mY)))));refine e7 pI [0,3,4,5,6,8,9,31,32,47,48,49,84] [14] ?_;refine b9 (by simp<;>omega) ?_;refine ar (eX _ (cD fw ?_));(try simp only[aV,aX]);refine bh.mk (i+1,q3) ⟨by dsimp only;omega,sg⟩ (by dsimp only;omega) ?_;refine bt fw
        .have sg:=hpo x6;have wc:=x6;rw[dV AJ]at wc;generalize Kb:F[u]=fv at wc;have qf:=(Aq fw (Aq @AJ (Aq @Kb @wc)));refine au [0,3,4,5,6,8,9,31,32,47,48,49,84] [14] ?_;refine b9 (by simp<;>omega) ?_;refine ar (eX _ (cD fw ?_));(try simp only[aV,aX]);refine bh.mk (i+1,q3) ⟨by dsimp only;omega,sg⟩ (by dsimp only;omega) ?_;refine bt fw
       .obtain rfl:i=R.length:=aa
        have sg:j1 TN F q3 d (s+1) 0:=adG o8 (by rw[hR];exact xK);refine b9 (by simp<;>omega) ?_;refine b5 (cg _ (cD fw ?_));(try simp only[aV,aX]);refine bh.mk (s+1,q3) ⟨by dsimp only;omega,sg⟩ (by dsimp only;omega) ?_;refine bt fw
     .have Am:=CD;rw[dV o7]at Am;generalize Kb:F[s]=fv at Am;have qf:=(Aq fw (Aq @o7 (Aq @Kb @Am)));refine au [0,3,4,5,6,31,32,40] [14] ?_;refine b8 (by simp<;>omega) ?_;refine b5 (cg _ (cD fw ?_));(try simp only[aV,aX]);refine bh.mk (s+1,q2) ⟨by dsimp only;omega,adH zX CD⟩ (by dsimp only;omega) ?_;refine bt fw
    .have C9:s=N:=aa
     subst C9;have sg:=ga q2 d zX;refine b9 (by simp<;>omega) ?_;refine b5 (aZ _ (cD fw ?_));(try simp only[aV,aX]);refine bh.mk (d+1,q2) ⟨by dsimp only;omega,sg⟩ (by dsimp only;omega) ?_;refine bt fw
  .have JX:d=N:=aa
   have hE:=s5 q d aa hI;refine b9 (by simp<;>omega) ?_;refine b5 (aF _ ?_);rw[ain];refine AW.imp (aM.Ys (fun _=>trivial) 3 rfl rfl ak) ?_;rw[<- hE];unfold vy;simp only[ajN,ajG];refine ae fw [2] [] ?_;exact aU fw
theorem ady (G:ay) (p:aS) (bn:c8 p=none) (qD:(bA p).length<=6) (hP:bZ (bO p)<=4096) (z:Nat) (hz:z < (bl p).length) (hd:(fZ (bl p)).getD z 0 < 0):aD prog G 55 [qp p,ab z] (.bz [.sl none [],.cf 50 (.v (.int .i64 8))]):=by
 have oh:=E7 G p bn qD hP;have zW:=(sW (Bu bn)).len;have hlen:=sC p;have qF:0 < bZ (bO p):=oJ fun x hx=>(nJ (iB bn) hx).m2
 have hzP:(z:Int) < bZ (bO p):=aa
 have pY:z < (fZ (bl p)).length:=aa
 rw[dV pY]at hd;generalize fZ (bl p)=F at *;generalize hv:F[z]=v at *;simp only[qp,ri,sa,cE,fg,nY,fI,ab]at oh ⊢;generalize fL (bl p)=NX at *;generalize bZ (bO p)=PP at *;generalize ((bA p).map fun n=>[D.v (.int .i64 n)])=IN at *;generalize (bO p).map jF=PT at *;generalize p.names.map bw=NN at *;generalize p.ax.map cU=RR at *
 have h0:¬ (z:Int) < 0:=aa
 have h1:¬ PP<=(z:Int):=aa
 refine aD.aQ (aC _) func55 rfl rfl (rs:=[.tmp 4,.tmp 5]) results55 (by simp[ntmps55]) fun X=>?_;simp only[ntmps55,List.map];refine aB [0,1] [] ?_;refine br trivial oh [0,1,6,7] [] ?_;refine ag fun K1 aF=>aB [0,1,6,7,22] [] ?_;refine al (ar (aF _ ?_));refine ag fun K2 aw=>?_;have qf:=(Aq @h0 @h1);refine au [0,1,6,33] [] ?_;refine b9 (by simp<;>omega) ?_;refine ar (aw _ (ag fun K3 aZ=>?_));have qf:=(Aq @pY (Aq @hv @hd));refine au [0,1,6,39] [] ?_;refine b8 (by simp<;>omega) ?_;refine aB [4,5] [] ?_;exact gn
theorem adw (G:ay) (p:aS) (bn:c8 p=none) (qD:(bA p).length<=6) (hP:bZ (bO p)<=4096) (z:Nat) (hz:z < (bl p).length) (d:Nat) (hd:(fZ (bl p)).getD z 0=(d:Int)) (hd2:d < 2^19):aD prog G 55 [qp p,ab z] (.bz [fI (ek (bl p) z d 0),.v .nilIface]):=by
 have oh:=E7 G p bn qD hP;have ht:=Bu bn;have o3:=ht.pos;have zW:=(sW ht).len;have fO:=B6 (sW ht) d z hz hd;have hlen:=sC p;have qF:0 < bZ (bO p):=oJ fun x hx=>(nJ (iB bn) hx).m2
 have pY:z < (fZ (bl p)).length:=aa
 rw[dV pY]at hd;generalize fZ (bl p)=F at *
 have wB:∀ s (h:s < (bl p).length),(bl p)[s].length<=64:=fun s h=>by
  rw[DH h,y6];have:=akR (n:=2) bF qD;omega
 have oT:=Bc (bl p)
 have kc:∀ s (h:s < (bl p).length),(fL (bl p))[s]? = some [fI (bl p)[s]]:=fun s h=>by simp[fL,h]
 have hcast:((bl p).length:Int)=bZ (bO p):=by rw[hlen];omega
 have yh:(bl p).length<=4096:=aa
 have ZT:=fun (kk m N:Nat) (r:List (List D)) (xs:List Int) (h1:kk+1+1+m<=2^20) (h2:∀ x∈xs,0<=x/\x < (gO (bl p) z kk).length) (h3:xs.length < 2^40)=>Xl G (adu (TN:=bl p) (z:=z) (kk:=kk) (m:=m) (N:=N)) r h1 xs h2 h3;have hiq:=fun (kk N:Nat) (h:kk < d+1) (xs:List Int) (h2:∀ x∈xs,0<=x/\x < (gO (bl p) z kk).length) (h3:xs.length < 2^40)=>abj G (adv (TN:=bl p) (z:=z) (d:=d) (kk:=kk) (N:=N) h) (fun o f=>eV _ _ _ o f) aa xs h2 h3;have xO:=RY (bl p) z;have Y1:=fun k s (h:s < (bl p).length)=>RZ (z:=z) (k:=k) h
 have Ac:∀ s (h:s < (bl p).length),(bl p)[s].length < 2^40:=fun s h=>by have:=wB s h;omega
 have fR:=ht.mem;have hstep:=fun k s (hs:s < (bl p).length) (hg:qZ (bl p) (k+1) s z)=>M7 ht hz hs hg
 have aa2:∀ k s (hs:s < (bl p).length),ek (bl p) z (k+1) s=(l3 (bl p) z k s:Int) :: ek (bl p) z k ((bl p)[s].getD (l3 (bl p) z k s) 0).toNat:=fun k s hs=>by rw[ek,vn hs]
 have aa3:∀ s,ek (bl p) z 0 s=[]:=fun _=>rfl;simp only[qp,ri,sa,cE,fg,nY,fI,ab,<- hcast]at oh kc ⊢;clear hlen hcast qF ht wB;generalize fL (bl p)=NX at *;generalize bl p=TN at *;obtain⟨N,hN⟩:∃ N:Nat,TN.length=N:=⟨_,rfl⟩;rw[hN]at oh oT yh o3 zW ⊢
 have hzN:z < N:=aa
 generalize ((bA p).map fun n=>[D.v (.int .i64 n)])=IN at *;generalize (bO p).map jF=PT at *;generalize p.names.map bw=NN at *;generalize p.ax.map cU=RR at *
 have h0:¬ (z:Int) < 0:=aa
 have h1:¬ N<=z:=aa
 have F1:gO TN z 0=(List.replicate N false).set z true:=by rw[gO,hN]
 have gI:j8 TN z 1=[.d (.sl none ((gO TN z 0).map fun b=>[.v (.bool b)]))]:=rfl
 have ji:¬ (d:Int) < 0:=aa
 refine aD.aQ (aC _) func55 rfl rfl (rs:=[.tmp 4,.tmp 5]) results55 (by simp[ntmps55]) fun X=>?_;simp only[ntmps55,List.map];have fw:=(Aq @eT (Aq @iH (Aq @eV (Aq @fX @fY))));refine ae fw [0,1] [] ?_;refine br fw oh [0,1,6,7] [] ?_;refine ag fun K1 aF=>ae fw [0,1,6,7,22] [] ?_;refine al (ar (aF _ ?_));refine ag fun K2 aw=>?_;have qf:=(Aq fw (Aq @h0 @h1));refine au [0,1,6,33] [] ?_;refine b9 (by simp<;>omega) ?_;refine ar (aw _ (ag fun K3 aZ=>?_));have qf:=(Aq fw (Aq @pY (Aq @hd @ji)));refine au [0,1,6,39] [] ?_;refine b9 (by simp<;>omega) ?_;refine ar (aZ _ ?_);have qf:=(Aq fw (Aq @lZ.eq_1 (Aq @gg.eq_1 (Aq @gg.eq_2 (Aq @pY @hd)))));refine au [0,1,6,8] [46,8] ?_;refine AW.imp (aM.UP 46 rfl ak) ?_
 refine AW.st (τ:=⟨bp [(0,.d (.ip [.sl none NN,.sl none RR,.v (.int .i64 N),.v (.int .i64 (pZ p)),.sl none NX,.sl none PT,.sl none IN])),(1,int z),(6,.d (.sl none (F.map fun n=>[.v (.int .i64 n)]))),(8,.ref 8 0 0)],aq [(46,.box 86 (jw :: List.replicate d jw)),(8,.box 80 [.own 46 0 (d+1)])]⟩) (by
  have e:List.replicate (d+1) jw=jw :: List.replicate d jw:=rfl;rw[<- e];congr 1;simp only[Lh,ake]
  exact Ks (by simp[jw]) (by simp[jw])) ?_
 refine HZ (aC _) ah ([]) ([]) (List.range 8) [0,1,6,8] [46,8,52] aN ah fun K' ao=>?_;(repeat refine zh rfl fun K2 aw=>?_;simp[eT,iH,eV,fX,fY,lZ,gg];(repeat refine⟨aa,?_⟩);refine aw _ ?_;clear aw K2);refine zi (ao _ ?_);refine AW.st (by simp[eT,iH,eV,fX,fY,lZ,gg];rfl) ?_;have qf:=(Aq fw @hzN);refine au [0,1,6,8] [46,8,52] ?_;refine AW.imp (aM.freeze 52 trivial) ?_;refine AW.st (by simp[eT,iH,eV,fX,fY];rfl) ?_;refine ag fun K4 cr=>ae fw [0,1,6,8,9] [46,8,9] ?_;refine cG (S:=Nat) (fun k=>1<=k/\k<=d+1) (fun k=>⟨bp [(0,.d (.ip [.sl none NN,.sl none RR,.v (.int .i64 N),.v (.int .i64 (pZ p)),.sl none NX,.sl none PT,.sl none IN])),(1,int z),(6,.d (.sl none (F.map fun n=>[.v (.int .i64 n)]))),(8,.ref 8 0 0),(9,.ref 9 0 0)],aq [(46,.box 86 (j8 TN z k ++ List.replicate (d+1 - k) jw)),(8,.box 80 [.own 46 0 (d+1)]),(9,.box 3 [int k])]⟩) (fun k=>d+1 - k) 1 ?_ ⟨aa,aa⟩ ?_
 .refine aM.dk aN (by simp[eT,iH,eV,fX,fY,gI,F1,ajV,ake,eT]) (by simp[eT,iH,eV,fX,fY,gI,F1,ajV,ake,eT])
 .rintro k ⟨bQ,fP⟩;refine ag fun K5 cg=>?_;by_cases gZ:k<=d
  .obtain⟨kk,rfl⟩:∃ kk,k=kk+1:=⟨k - 1,aa⟩;obtain⟨m,hm⟩:∃ m,d+1 - (kk+1)=m+1:=⟨d - (kk+1),aa⟩
   have Kn:(kk:Int)+1<=(d:Int):=aa
   have rB:kk+1 < d+1:=aa
   have AB:List.replicate (m+1) jw=jw :: List.replicate m jw:=rfl;rw[hm,AB]
   have rC:∀ x,(j8 TN z (kk+1) ++ x :: List.replicate m jw).length=d+1:=fun x=>by simp[fY];omega
   have hT:∀ R,List.take (kk+1) (j8 TN z (kk+1) ++ R)=j8 TN z (kk+1):=fun R=>List.take_left' (fY _ _ _);have qu:∀ R,List.drop (kk+1) (j8 TN z (kk+1) ++ R)=R:=fun R=>List.drop_left' (fY _ _ _)
   have Pt:∀ x R,List.drop (kk+1+1) (j8 TN z (kk+1) ++ x :: R)=R:=fun x R=>by
    rw[<- List.drop_drop,qu];rfl
   have qf:=(Aq fw (Aq @pY (Aq @hd @Kn)));refine iz [0,1,6,8,9,64] [46,8,9] ?_;refine b8 (by simp<;>omega) ?_;refine ar (cg _ (ag fun K6 eB=>bg (HZ (aC _) ah ([]) ([]) (List.range 9) [0,1,6,8,9] [46,8,9,73] aN ah fun K' ao=>?_)));(repeat refine zh rfl fun K2 aw=>?_;simp[eT,iH,eV,fX,fY,lZ,gg,hT,qu,Pt,rC,rB];(repeat refine⟨aa,?_⟩);refine aw _ ?_;clear aw K2);refine zi (ao _ ?_);refine AW.st (by simp[eT,iH,eV,fX,fY,lZ,gg,hT,qu,Pt,rC,rB];rfl) ?_;refine ae fw [0,1,6,8,9,78,79,80] [46,8,9,73] ?_;refine cG (S:=Nat) (fun s=>s<=N) (fun s=>⟨bp [(0,.d (.ip [.sl none NN,.sl none RR,.v (.int .i64 N),.v (.int .i64 (pZ p)),.sl none NX,.sl none PT,.sl none IN])),(1,int z),(6,.d (.sl none (F.map fun n=>[.v (.int .i64 n)]))),(8,.ref 8 0 0),(9,.ref 9 0 0),(78,.d (.sl none NX)),(79,int NX.length),(80,int s)],aq [(46,.box 86 (j8 TN z (kk+1) ++ .own 73 0 N :: List.replicate m jw)),(8,.box 80 [.own 46 0 (d+1)]),(9,.box 3 [int ((kk:Int)+1)]),(73,.sl 4 1 ((pD (gO TN z (kk+1)) s).map fun b=>[.v (.bool b)]))]⟩) (fun s=>N - s) 0 ?_ aa ?_
   .rw[Yn,xO,hN];refine aM.dk aN (by simp[eT,iH,eV,fX,fY,ake,eT,eV]) (by simp[eT,iH,eV,fX,fY,ake,eT,eV])
   .intro s hs;refine ae fw [0,1,6,8,9,78,79,80,81] [46,8,9,73] ?_;refine ag fun K7 eO=>?_;by_cases aH:s < N
    .have eD:s < NX.length:=aa
     have ot:(s:Int) < (NX.length:Int):=aa
     have CQ:s < TN.length:=aa
     refine b8 (by simp<;>omega) ?_;refine ar (eO _ (ag fun K8 eX=>bg ?_))
     have rz:NX[s]=[.sl none (TN[s].map fun n=>[.v (.int .i64 n)])]:=by
      have pG:=kc s CQ;rw[AT eD]at pG;exact AI pG
     have Pz:s < (gO TN z (kk+1)).length:=by rw[xO];exact CQ
     have wb:=Ym Pz;have oA:=Y1 kk s CQ;rw[dV Pz]at oA;rw[oA]at wb;have eQ:=zR (L:=gO TN z (kk+1)) (s:=s) aa;rw[xO,hN]at eQ
     have o7:s < (pD (gO TN z (kk+1)) s).length:=aa
     have FM:=ZT kk m N ((pD (gO TN z (kk+1)) s).map fun b=>[.v (.bool b)]) TN[s] aa (fun x hx=>by
      rw[xO];exact fR _ (By CQ) x hx) (Ac s CQ)
     rw[show kk+1+1+m=d+1 by omega]at FM;generalize TN[s]=R at rz FM wb;generalize zw R (gO TN z kk)=b at FM wb;have qf:=(Aq fw (Aq @eD @rz));refine au [0,1,6,8,9,10,11,78,79,80] [46,8,9,73] ?_;refine VB (aC _) ah ([7]) (List.range 10) ah fun K' ao=>?_;(repeat refine Nd rfl fun K2 aw=>?_;simp[eT,iH,eV,fX,fY,qu,rC,rB,o7,aH];(repeat refine⟨aa,?_⟩);refine aw _ ?_;clear aw K2);refine Nd rfl fun K2 aw=>?_;simp[eT,iH,eV,fX,fY,qu,rC,rB,o7,aH];refine Gb.mc (FM) (by simp[eT,iH,eV,fX,fY,qu,rC,rB,o7,aH]) (by simp[eT,iH,eV,fX,fY,qu,rC,rB,o7,aH]) (by simp[eT,iH,eV,fX,fY,qu,rC,rB,o7,aH]) (by simp[eT,iH,eV,fX,fY,qu,rC,rB,o7,aH]) (by simp[eT,iH,eV,fX,fY,qu,rC,rB,o7,aH];exact Ks ak ak) ?_;simp[eT,iH,eV,fX,fY,qu,rC,rB,o7,aH];refine aw _ ?_;clear aw K2;(repeat refine Nd rfl fun K2 aw=>?_;simp[eT,iH,eV,fX,fY,qu,rC,rB,o7,aH];(repeat refine⟨aa,?_⟩);refine aw _ ?_;clear aw K2);refine ahg (ao _ ?_);refine eX _ (AW.norm [0,1,6,8,9,78,79,80] [46,8,9,73] aN (AW.st (by simp[eT,iH,eV,fX,fY,qu,rC,rB,o7,aH];rfl) ?_));refine cD fw ?_;(try simp only[aV,aX]);refine bh.mk (s+1) aa aa ?_;rw[<- wb];refine aM.dk aN (by simp[eT,iH,eV,fX,fY,ajV,eT,eV]) (by simp[eT,iH,eV,fX,fY,ajV,eT,eV])
    .obtain rfl:s=N:=aa
     have ot:¬ (s:Int) < (NX.length:Int):=aa
     refine b9 (by simp<;>omega) ?_;refine b5 (eB _ ?_)
     have aaa:pD (gO TN z (kk+1)) s=gO TN z (kk+1):=by
      have:=Yl (gO TN z (kk+1));rw[xO,hN]at this;exact this
     rw[aaa]
     have u2:((gO TN z (kk+1)).map fun b=>[D.v (.bool b)]).length=s:=by rw[aki,xO,hN]
     refine AW.imp (aM.freeze 73 trivial) ?_;refine AW.st (by simp[eT,iH,eV,fX,fY,u2,sh];rfl) ?_;refine ag fun K9 j2=>ae fw [0,1,6,8,95] [46,8] ?_;refine gR fw j2 [0,1,6,8,9] [46,8,9] ?_;refine cD fw ?_;(try simp only[aV,aX]);have cO:=WO TN z (kk+1)
     have pO:d+1 - (kk+1+1)=m:=aa
     refine bh.mk (kk+1+1) ⟨aa,aa⟩ aa ?_;rw[cO,pO];refine aM.dk aN (by simp[eT,iH,eV,fX,fY,akt,eT,eV]) (by simp[eT,iH,eV,fX,fY,akt,eT,eV])
  .obtain rfl:k=d+1:=aa
   have Kn:¬ (d:Int)+1<=(d:Int):=aa
   have lY:d+1 - (d+1)=0:=aa
   rw[lY];simp only[List.replicate_zero,ako];have qf:=(Aq fw (Aq @pY (Aq @hd @Kn)));refine iz [0,1,6,8,9,64] [46,8,9] ?_;refine b9 (by simp<;>omega) ?_;refine b5 (cr _ (ae fw [0,1,6,8,12] [46,8] ?_));refine ae fw [0,1,6,8,12,13] [46,8] ?_;refine ag fun nS eJ=>?_;have qf:=(Aq fw (Aq @pY @hd));refine au [0,8,12,13,14] [46,8,14] ?_;generalize hW:ek TN z d 0=W;refine cG (S:=Nat×Nat×List Int) (fun q=>q.1<=d/\q.2.1 < TN.length/\qZ TN q.1 q.2.1 z/\q.2.2.length<=d/\q.2.2 ++ ek TN z q.1 q.2.1=W/\q.2.2.length+q.1=d) (fun q=>⟨bp [(0,.d (.ip [.sl none NN,.sl none RR,.v (.int .i64 N),.v (.int .i64 (pZ p)),.sl none NX,.sl none PT,.sl none IN])),(8,.ref 8 0 0),(12,.own 905 0 q.2.2.length),(13,int q.2.1),(14,.ref 14 0 0)],aq [(46,.box 86 (j8 TN z (d+1))),(8,.box 80 [.own 46 0 (d+1)]),(14,.box 3 [int q.1]),(905,.sl 3 1 (q.2.2.map fun n=>[.v (.int .i64 n)]))]⟩) (fun q=>q.1) (d,0,[]) ?_ ⟨ak,by dsimp only;omega,fO,ak,hW,ak⟩ ?_
   .refine (aM.nU 12 905 3 1 rfl rfl).trans ?_;refine aM.dk aN (by simp[eT,iH,eV,fX,fY,eT,eV,fX]) (by simp[eT,iH,eV,fX,fY,eT,eV,fX])
   .rintro⟨k,s,out⟩ ⟨hk,hs,hg,CZ,how,aaW⟩;dsimp only at hk hs hg CZ how aaW ⊢
    have z7:(out.map fun n=>[D.v (.int .i64 n)]).length=out.length:=ak
    refine ag fun ud mL=>?_
    cases k with
    | zero=>
     rw[aa3,ako]at how;subst how;refine ae fw [0,8,12,13,14,101] [46,8,14,905] ?_;refine b9 ak ?_;refine b5 (eJ _ (AW.imp (aM.freeze 905 trivial) ?_));refine AW.st (by simp[eT,iH,eV,fX,fY,z7,sh];rfl) ?_;refine ae fw [4,5] [] ?_;exact aU (Aq fw @hW)
    | succ k=>
     have hkp:(k:Int)+1 > 0:=aa
     have qf:=(Aq fw @hkp);refine au [0,8,12,13,14,101] [46,8,14,905] ?_;refine b8 (by simp<;>omega) ?_;refine ar (mL _ (ag fun xp kB=>bg ?_))
     have C9:s < N:=aa
     have AE:s < NX.length:=aa
     have rz:NX[s]=[.sl none (TN[s].map fun n=>[.v (.int .i64 n)])]:=by
      have pG:=kc s hs;rw[AT AE]at pG;exact AI pG
     obtain⟨hi,he,v0,v1,FQ⟩:=hstep k s hs hg;have Lj:=aa2 k s hs;rw[dV hi]at Lj
     have Qn:=hiq k N aa TN[s] (fun x hx=>by
      rw[xO];exact fR _ (By hs) x hx) (Ac s hs)
     rw[he]at Qn;rw[Lj]at how;obtain⟨u,hu⟩:=ajL v0;rw[hu,ajI]at v1 FQ how
     have eK:(TN[s].map fun n=>[D.v (.int .i64 n)]).length=TN[s].length:=ak
     generalize l3 TN z k s=i at *;generalize TN[s]=R at *;have qf:=(Aq fw (Aq @AE @rz));refine jW Qn [0,8,12,13,14,15] [46,8,14,905] ?_;refine rg [0,8,12,13,14,15] [46,8,14,905] aN fun K' ao=>?_;(repeat refine aK fun Kq af=>?_;simp[eT,iH,eV,fX,fY,z7,sh];(repeat refine⟨aa,?_⟩);refine af _ ?_);refine bJ (ao _ (AW.st (by simp[eT,iH,eV,fX,fY,z7,sh];rfl) ?_));have qf:=(Aq fw (Aq @AE (Aq @rz (Aq @hi @hu))));refine e6 kB [0,8,12,13,14] [46,8,14,905] ?_;refine ag fun nq gH=>ae fw [0,8,12,13,127] [46,8,905] ?_;refine gR fw gH [0,8,12,13,14] [46,8,14,905] ?_;refine cD fw ?_;(try simp only[aV,aX]);refine bh.mk (k,u,out ++ [(i:Int)]) ⟨by dsimp only;omega,v1,FQ,by dsimp only;rw[ajQ];simp only[ajP,akA];omega,by rw[akt];exact how,by dsimp only;rw[ajQ];simp only[ajP,akA];omega⟩ (by dsimp only;omega) ?_;refine aM.dk aN (by simp[eT,iH,eV,fX,fY,eT,eV,fX]) (by simp[eT,iH,eV,fX,fY,eT,eV,fX])
theorem adx (G:ay):aD prog G 55 [.v (.pointer none),.v (.int .i64 0)] (.bz [.sl none [],.cf 50 (.v (.int .i64 7))]):=by
 have hf:=O5 G;refine aD.aQ (aC _) func55 rfl rfl (rs:=[.tmp 4,.tmp 5]) results55 (by simp[ntmps55]) fun X=>?_;simp only[ntmps55,List.map];refine aB [0,1] [] ?_;refine br trivial hf [0,1,6,7] [] ?_;refine ag fun K1 aF=>aB [0,1,6,7,22] [] ?_;refine aJ (aB [4,5] [] ?_);exact gn
theorem adz (G:ay) (p:aS) (bn:c8 p=none) (qD:(bA p).length<=6) (hP:bZ (bO p)<=4096) (z:Int) (hz:z < 0\/((bl p).length:Int)<=z):aD prog G 55 [qp p,ab z] (.bz [.sl none [],.cf 50 (.v (.int .i64 2))]):=by
 have oh:=E7 G p bn qD hP;have hlen:=sC p;have qF:0 < bZ (bO p):=oJ fun x hx=>(nJ (iB bn) hx).m2
 have Gn:z < 0\/bZ (bO p)<=z:=aa
 simp only[qp,ri,sa,cE,fg,nY,fI,ab]at oh ⊢;generalize (fZ (bl p)).map (fun n=>[D.v (.int .i64 n)])=FD at *;generalize fL (bl p)=NX at *;generalize bZ (bO p)=PP at *;generalize ((bA p).map fun n=>[D.v (.int .i64 n)])=IN at *;generalize (bO p).map jF=PT at *;generalize p.names.map bw=NN at *;generalize p.ax.map cU=RR at *;refine aD.aQ (aC _) func55 rfl rfl (rs:=[.tmp 4,.tmp 5]) results55 (by simp[ntmps55]) fun X=>?_;simp only[ntmps55,List.map];refine aB [0,1] [] ?_;refine br trivial oh [0,1,6,7] [] ?_;refine ag fun K1 aF=>aB [0,1,6,7,22] [] ?_;refine al (ar (aF _ ?_));refine ag fun K2 aw=>?_;by_cases h0:z < 0
 .have qf:=@h0;refine au [0,1,6,33] [] ?_;refine b8 (by simp<;>omega) ?_;refine aB [4,5] [] ?_;exact gn
 .have h1:PP<=z:=aa
  have qf:=(Aq @h0 @h1);refine au [0,1,6,33] [] ?_;refine b8 (by simp<;>omega) ?_;refine aB [4,5] [] ?_;exact gn
theorem aiq {TN:List (List Int)} (ht:nr TN) {z d:Nat} (hz:z < TN.length) (hd:(fZ TN).getD z 0=(d:Int)):∃ kk,oM z (tU TN z) = .sl kk ((ek TN z d 0).map fun n=>[.v (.int .i64 n)]):=by
 have hF:=sW ht;unfold oM tU;by_cases e:z=0
 .subst e;rw[hF.zero]at hd
  obtain rfl:d=0:=aa
  rw[if_pos rfl];exact⟨_,rfl⟩
 .have h0:0 < (fZ TN).getD z 0:=by
   by_cases e2:(fZ TN).getD z 0=0
   .exact absurd (hF.one z hz e2) e
   .omega
  rw[if_neg e,if_pos h0,hd,ajI];by_cases e2:ek TN z d 0=[]
  .rw[IM e2,e2];exact⟨_,rfl⟩
  .rw[EU e2];exact⟨_,rfl⟩
theorem afP (G:ay) (hF:vB G) (hM:k9 G) (hP:sL G) (hG:ra G) {es er:Value} (hE:uc G es er) (rv:BD G) (ry:BE G) (t:Tx) (dk:Int):aD prog G 10 [dS t,ab dk] (.v (.bool true)):=by
 have sr:=acu G hF hM hP hG hE rv ry t 60;have rA:=Iv G hG 7;have ea:=Iv G hG 2;have FI:=Iv G hG 8;rw[show sT 7=some (7,none) from rfl]at rA;rw[show sT 2=some (2,none) from rfl]at ea;rw[show sT 8=some (8,none) from rfl]at FI;simp only[bD]at rA ea FI;have x4:=O5 G;have mW:=adx G;simp only[dS,ab]at sr rA ea FI ⊢
 cases Kz:Dv t 60 with
 | none=>
  rw[Kz]at sr;simp only[uy]at sr;refine aD.aQ (aC _) func10 rfl rfl (rs:=[.tmp 4]) results10 (by simp[ntmps10]) fun X=>?_;simp only[ntmps10,List.map];refine aB [0,1] [] ?_;refine br trivial sr [1,5,6,7] [] ?_;refine ag fun K1 aF=>aB [1,5,6,22] [] ?_;refine aJ (aB [4] [] ?_);exact gn
 | some p=>
  rw[Kz]at sr;obtain⟨bn,hk,hi4,z8,aiw⟩:=acs Kz;have ht:=Bu bn;have o3:=ht.pos;have qF:0 < bZ (bO p):=oJ fun x hx=>(nJ (iB bn) hx).m2;have hlen:=sC p
  have hcast:((bl p).length:Int)=bZ (bO p):=by rw[hlen];omega
  have oh:=E7 G p bn aa z8;have ml:=U8 G p bn aa z8;have Lk:=aif G p bn aa z8;have zW:=(sW ht).len;have Qd:=O1 ht;have yq:=R9 G none none (fZ (bl p)) (fZ (bl p)) (by rw[zW];omega);simp only[beq_self_eq_true]at yq;by_cases hz:dk < 0\/((bl p).length:Int)<=dk
  .have iG:=adz G p bn aa z8 dk hz;simp only[uy,qp,ri,sa,uz,sP,uq,cE,fg,nY,fI,qo,ab,<- hcast]at sr oh ml iG yq;generalize ((fZ (bl p)).map fun n=>[D.v (.int .i64 n)])=FD at *;generalize fL (bl p)=NX at *;generalize (bl p).length=N at *;generalize ((pZ p:Nat):Int)=NI at *;generalize ((bA p).map fun n=>[D.v (.int .i64 n)])=IN at *;generalize (bO p).map jF=PT at *;generalize p.names.map bw=NN at *;generalize p.ax.map cU=RR at *;generalize p.ax.map eo=RW at *;refine aD.aQ (aC _) func10 rfl rfl (rs:=[.tmp 4]) results10 (by simp[ntmps10]) fun X=>?_;simp only[ntmps10,List.map];refine aB [0,1] [] ?_;refine br trivial sr [1,5,6,7] [] ?_;refine ag fun K1 aF=>aB [1,5,6,22] [] ?_;refine al (ar (aF _ ?_));refine br trivial oh [1,5,6,8,9] [] ?_;refine ag fun K2 aw=>rg [1,5,6,8,40] [] aN fun K' ao=>?_;(repeat refine aK fun Kq af=>?_;simp;(repeat refine⟨aa,?_⟩);refine af _ ?_);refine aK fun Kq af=>?_;simp;refine rX (ml) bB (af _ ?_);simp only[aL,dL];(repeat refine aK fun Kq af=>?_;simp;(repeat refine⟨aa,?_⟩);refine af _ ?_);refine aK fun Kq af=>?_;simp;refine rX (yq) bB (af _ ?_);simp only[aL,dL];(repeat refine aK fun Kq af=>?_;simp;(repeat refine⟨aa,?_⟩);refine af _ ?_);refine bJ (ao _ (AW.st bB ?_));refine al (ar (aw _ ?_));refine br trivial iG [1,6,8,9,10] [] ?_;refine br trivial x4 [1,6,8,9,10,12] [] ?_;refine br trivial mW [1,6,8,9,10,12,14] [] ?_;refine ag fun K3 aZ=>rg [1,6,8,9,10,62] [] aN fun K' ao=>?_;(repeat refine aK fun Kq af=>?_;simp;(repeat refine⟨aa,?_⟩);refine af _ ?_);refine aK fun Kq af=>?_;simp;refine rX (rA) bB (af _ ?_);simp only[aL,dL];(repeat refine aK fun Kq af=>?_;simp;(repeat refine⟨aa,?_⟩);refine af _ ?_);refine aK fun Kq af=>?_;simp;refine rX (rA) bB (af _ ?_);simp only[aL,dL]
   (repeat refine aK fun Kq af=>?_;simp;(repeat refine⟨aa,?_⟩);refine af _ ?_);refine bJ (ao _ (AW.st bB ?_));refine al (ar (aZ _ ?_));refine ag fun K4 cr=>?_;by_cases h0:dk < 0
   .have qf:=@h0;refine au [1,6,8,9,10,72] [] ?_;refine b8 (by simp<;>omega) ?_;refine br trivial ea [4] [] ?_;exact gn
   .have h1:dk >= (N:Int):=aa
    have qf:=(Aq @h0 @h1);refine au [1,6,8,9,10,72] [] ?_;refine b8 (by simp<;>omega) ?_;refine br trivial ea [4] [] ?_;exact gn
  .obtain⟨z,rfl⟩:=ajL (show 0<=dk by omega)
   have wK:z < (bl p).length:=aa
   have pY:z < (fZ (bl p)).length:=aa
   have h0:¬ (z:Int) < 0:=aa
   by_cases gA:(fZ (bl p)).getD z 0 < 0
   .have nF:=ady G p bn aa z8 z wK gA;rw[dV pY]at gA;simp only[uy,qp,ri,sa,uz,sP,uq,cE,fg,nY,fI,qo,ab,<- hcast]at sr oh ml nF yq;generalize fZ (bl p)=F at *;generalize Qf:F[z]=fz at *;generalize fL (bl p)=NX at *;generalize (bl p).length=N at *
    have h1:¬ (z:Int) >= (N:Int):=aa
    generalize ((pZ p:Nat):Int)=NI at *;generalize ((bA p).map fun n=>[D.v (.int .i64 n)])=IN at *;generalize (bO p).map jF=PT at *;generalize p.names.map bw=NN at *;generalize p.ax.map cU=RR at *;generalize p.ax.map eo=RW at *;refine aD.aQ (aC _) func10 rfl rfl (rs:=[.tmp 4]) results10 (by simp[ntmps10]) fun X=>?_;simp only[ntmps10,List.map];refine aB [0,1] [] ?_;refine br trivial sr [1,5,6,7] [] ?_;refine ag fun K1 aF=>aB [1,5,6,22] [] ?_;refine al (ar (aF _ ?_));refine br trivial oh [1,5,6,8,9] [] ?_;refine ag fun K2 aw=>rg [1,5,6,8,40] [] aN fun K' ao=>?_;(repeat refine aK fun Kq af=>?_;simp;(repeat refine⟨aa,?_⟩);refine af _ ?_);refine aK fun Kq af=>?_;simp;refine rX (ml) bB (af _ ?_);simp only[aL,dL];(repeat refine aK fun Kq af=>?_;simp;(repeat refine⟨aa,?_⟩);refine af _ ?_);refine aK fun Kq af=>?_;simp;refine rX (yq) bB (af _ ?_);simp only[aL,dL];(repeat refine aK fun Kq af=>?_;simp;(repeat refine⟨aa,?_⟩);refine af _ ?_);refine bJ (ao _ (AW.st bB ?_));refine al (ar (aw _ ?_));refine br trivial nF [1,6,8,9,10] [] ?_;refine br trivial x4 [1,6,8,9,10,12] [] ?_;refine br trivial mW [1,6,8,9,10,12,14] [] ?_;refine ag fun K3 aZ=>rg [1,6,8,9,10,62] [] aN fun K' ao=>?_;(repeat refine aK fun Kq af=>?_;simp;(repeat refine⟨aa,?_⟩);refine af _ ?_);refine aK fun Kq af=>?_;simp;refine rX (rA) bB (af _ ?_);simp only[aL,dL];(repeat refine aK fun Kq af=>?_;simp;(repeat refine⟨aa,?_⟩);refine af _ ?_);refine aK fun Kq af=>?_;simp;refine rX (rA) bB (af _ ?_);simp only[aL,dL];(repeat refine aK fun Kq af=>?_;simp;(repeat refine⟨aa,?_⟩);refine af _ ?_);refine bJ (ao _ (AW.st bB ?_));refine al (ar (aZ _ ?_));refine ag fun K4 cr=>?_;have qf:=(Aq @h0 @h1);refine au [1,6,8,9,10,72] [] ?_
    refine b9 (by simp<;>omega) ?_;refine ar (cr _ (ag fun K5 cg=>?_));have qf:=(Aq @pY (Aq @Qf @gA));refine au [1,6,9,10,84] [] ?_;refine b8 (by simp<;>omega) ?_;refine br trivial FI [4] [] ?_;exact gn
   .obtain⟨d,hd⟩:=ajL (show 0<=(fZ (bl p)).getD z 0 by omega);have hdb:=Qd z wK;have nF:=adw G p bn aa z8 z wK d hd aa;obtain⟨kk,hwc⟩:=aiq ht wK hd;have qH:=R9 G none kk (ek (bl p) z d 0) (ek (bl p) z d 0) (by rw[tT];omega);simp only[beq_self_eq_true]at qH;rw[dV pY]at hd
    have ji:¬ (d:Int) < 0:=aa
    have sk:((List.range (bl p).length).map fun t=>[oM t (tU (bl p) t)])[z]? = some [.sl kk ((ek (bl p) z d 0).map fun n=>[.v (.int .i64 n)])]:=by simp[wK,hwc]
    have cA:((List.range (bl p).length).map fun t=>[oM t (tU (bl p) t)]).length=(bl p).length:=ak
    simp only[uy,qp,ri,sa,uz,sP,uq,cE,fg,nY,fI,qo,ab,vy,<- hcast]at sr oh ml Lk nF yq qH;generalize ((List.range (bl p).length).map fun t=>[oM t (tU (bl p) t)])=WD at *;generalize ((ek (bl p) z d 0).map fun n=>[D.v (.int .i64 n)])=WZ at *;generalize fZ (bl p)=F at *;generalize fL (bl p)=NX at *;generalize (bl p).length=N at *
    have vd:z < WD.length:=aa
    rw[AT vd]at sk;have sk:=AI sk
    have h1:¬ (z:Int) >= (N:Int):=aa
    generalize ((pZ p:Nat):Int)=NI at *;generalize ((bA p).map fun n=>[D.v (.int .i64 n)])=IN at *;generalize (bO p).map jF=PT at *;generalize p.names.map bw=NN at *;generalize p.ax.map cU=RR at *;generalize p.ax.map eo=RW at *;refine aD.aQ (aC _) func10 rfl rfl (rs:=[.tmp 4]) results10 (by simp[ntmps10]) fun X=>?_;simp only[ntmps10,List.map];refine aB [0,1] [] ?_;refine br trivial sr [1,5,6,7] [] ?_;refine ag fun K1 aF=>aB [1,5,6,22] [] ?_;refine al (ar (aF _ ?_));refine br trivial oh [1,5,6,8,9] [] ?_;refine ag fun K2 aw=>rg [1,5,6,8,40] [] aN fun K' ao=>?_;(repeat refine aK fun Kq af=>?_;simp;(repeat refine⟨aa,?_⟩);refine af _ ?_);refine aK fun Kq af=>?_;simp;refine rX (ml) bB (af _ ?_);simp only[aL,dL];(repeat refine aK fun Kq af=>?_;simp;(repeat refine⟨aa,?_⟩);refine af _ ?_);refine aK fun Kq af=>?_;simp;refine rX (yq) bB (af _ ?_);simp only[aL,dL];(repeat refine aK fun Kq af=>?_;simp;(repeat refine⟨aa,?_⟩);refine af _ ?_);refine bJ (ao _ (AW.st bB ?_));refine al (ar (aw _ ?_));refine br trivial nF [1,6,8,9,10] [] ?_;refine br trivial x4 [1,6,8,9,10,12] [] ?_;refine br trivial mW [1,6,8,9,10,12,14] [] ?_;refine ag fun K3 aZ=>rg [1,6,8,9,10,62] [] aN fun K' ao=>?_;(repeat refine aK fun Kq af=>?_;simp;(repeat refine⟨aa,?_⟩);refine af _ ?_);refine aK fun Kq af=>?_;simp;refine rX (rA) bB (af _ ?_);simp only[aL,dL];(repeat refine aK fun Kq af=>?_;simp;(repeat refine⟨aa,?_⟩);refine af _ ?_);refine aK fun Kq af=>?_;simp;refine rX (rA) bB (af _ ?_);simp only[aL,dL];(repeat refine aK fun Kq af=>?_;simp;(repeat refine⟨aa,?_⟩);refine af _ ?_);refine bJ (ao _ (AW.st bB ?_));refine al (ar (aZ _ ?_));refine ag fun K4 cr=>?_;have qf:=(Aq @h0 @h1);refine au [1,6,8,9,10,72] [] ?_
    refine b9 (by simp<;>omega) ?_;refine ar (cr _ (ag fun K5 cg=>?_));have qf:=(Aq @pY (Aq @hd @ji));refine au [1,6,9,10,84] [] ?_;refine b9 (by simp<;>omega) ?_;refine ar (cg _ (rg [4] [] aN fun K' ao=>?_));(repeat refine aK fun Kq af=>?_;simp[vd,sk];(repeat refine⟨aa,?_⟩);refine af _ ?_);refine aK fun Kq af=>?_;simp[vd,sk];refine cX.data (Lk) bB (by first | exact D.bR _ | simp[aR,ajN,ajG,D.le,D.le.go,D.le_refl,D.bR,vd,sk]) ?_;refine af _ ?_;simp only[aL,dL];(repeat refine aK fun Kq af=>?_;simp[vd,sk];(repeat refine⟨aa,?_⟩);refine af _ ?_);refine aK fun Kq af=>?_;simp[vd,sk];refine cX.data (qH) bB (by first | exact D.bR _ | simp[aR,ajN,ajG,D.le,D.le.go,D.le_refl,D.bR,vd,sk]) ?_;refine af _ ?_;simp only[aL,dL];(repeat refine aK fun Kq af=>?_;simp[vd,sk];(repeat refine⟨aa,?_⟩);refine af _ ?_);refine bJ (ao _ (AW.st (by simp[vd,sk];rfl) ?_));exact gn
end Go.Proofs.YtoohljflflnbeaaGreatDoor
namespace Go.Proofs.YtoohljflflnbeaaGreatDoor
def aaj (t:xu) (d:Nat) (m:Nat->Nat->Nat) (a b i:Nat):Bool:=if d=1 then te t a i != te t b i else m (nx t a i) (nx t b i) == d - 1
def mkM (t:xu) (d:Nat) (m:Nat->Nat->Nat) (a b:Nat):Nat:=if m a b=0 then (if (List.range (wd t)).any (aaj t d m a b) then d else 0) else m a b
def Ii (t:xu):Nat->Nat->Nat->Nat
 | 0,_,_=>0
 | d+1,a,b=>mkM t (d+1) (Ii t d) a b
def mid (t:xu) (d a b x y:Nat):Nat:=if x < a\/(x=a/\y < b) then Ii t d x y else Ii t (d - 1) x y
open Go.Av Go.ChangeAt Go.ChangeShapes Go.RowKit Go.WideShapes
theorem abG:ownKnob prog.godebug=none:=ah
theorem abF:laidOutB prog=true:=ah
theorem WT:prog.cellsOf 3=1:=ah
section
variable {H:Type} {enc:TypeId×Value->H} {w:World} {base:Nat} {spare:Nat->Bool} {held:Bool} {X:Nat->Prop}
end
