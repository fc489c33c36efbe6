/- Parts. -/
import Derived.Test.YtobejfcgcfdpfaaGreatDoorPc42
set_option linter.unusedSectionVars false
set_option linter.unusedSimpArgs false
set_option linter.unusedVariables false
set_option maxHeartbeats 16000000
set_option maxRecDepth 100000
open Go.Proofs.Tryz
namespace Go.Proofs.YtobejfcgcfdpfaaGreatDoor
open Go.Av
def fc:List Int->List Int->Bool
 | a :: l,b :: m=>if a=b then fc l m else decide (a < b)
 | _,_=>false
theorem Dc:∀ l,fc l l=false
 | []=>rfl
 | a :: l=>by rw[fc,if_pos rfl,Dc l]
theorem Gc:∀ {l m:List Int},l.length=m.length->fc l m=false->fc m l=false->l=m
 | [],[],_,_,_=>rfl
 | a :: l,b :: m,h,h1,h2=>by
  rw[fc]at h1 h2;by_cases e:a=b
  .subst e;rw[if_pos rfl]at h1 h2;rw[Gc (by simpa using h) h1 h2]
  .rw[if_neg e]at h1;rw[if_neg (ann e)]at h2;have:=of_decide_eq_false h1;have:=of_decide_eq_false h2;omega
theorem Kp:∀ {a b c:List Int},a.length=b.length->b.length=c.length->fc b a=false->fc c b=false->fc c a=false
 | [],[],[],_,_,_,_=>rfl
 | a :: l,b :: m,c :: n,h1,h2,g1,g2=>by
  rw[fc]at g1 g2 ⊢;by_cases e1:b=a
  .subst e1;rw[if_pos rfl]at g1;by_cases e2:c=b
   .subst e2;rw[if_pos rfl]at g2 ⊢;exact Kp (by simpa using h1) (by simpa using h2) g1 g2
   .rw[if_neg e2]at g2 ⊢;exact g2
  .rw[if_neg e1]at g1;have x1:=of_decide_eq_false g1;by_cases e2:c=b
   .subst e2;rw[if_neg e1];exact g1
   .rw[if_neg e2]at g2;have x2:=of_decide_eq_false g2;rw[if_neg aa];exact decide_eq_false aa
theorem Kn:∀ {a b:List Int} (x y:List Int),a.length=b.length->fc (a ++ x) (b ++ y)=if a=b then fc x y else fc a b
 | [],[],x,y,_=>ak
 | a :: l,b :: m,x,y,h=>by
  have ih:=Kn (a:=l) (b:=m) x y (by simpa using h);rw[am7,am7,fc,fc,ih];by_cases e:a=b
  .subst e;by_cases e2:l=m
   .subst e2;simp
   .simp[e2]
  .simp[e]
def vl (NX:List (List Int)) (z:Nat):Nat->Nat->List Int->Prop
 | 0,s,q=>q=[]/\s=z
 | d+1,s,q=>∃ (i:Nat) (q':List Int),q=(i:Int) :: q'/\∃ h:s < NX.length,∃ hi:i < NX[s].length,vl NX z d NX[s][i].toNat q'
theorem XT {NX:List (List Int)} {z:Nat}:∀ {d s:Nat} {q:List Int},vl NX z d s q->q.length=d
 | 0,_,_,⟨e,_⟩=>by rw[e];rfl
 | d+1,_,_,⟨i,q',e,_,_,h⟩=>by rw[e,amo,XT h]
theorem JM {NX:List (List Int)} (ht:nc NX) {z:Nat}:∀ {d s:Nat} {q:List Int},vl NX z d s q->rh NX d s z
 | 0,_,_,⟨_,e⟩=>e
 | d+1,s,_,⟨i,q',_,hs,hi,h⟩=>by
  have h3:=ht.mem _ (By hs) _ (By hi);refine⟨NX[s][i].toNat,?_,aa,JM ht h⟩;rw[sU hs,Int.toNat_of_nonneg h3.1];exact By hi
theorem JL {NX:List (List Int)} (ht:nc NX) {z:Nat} (hz:z < NX.length):∀ (d s:Nat),s < NX.length->rh NX d s z->vl NX z d s (dv NX z d s)
 | 0,s,_,h=>⟨rfl,h⟩
 | d+1,s,hs,h=>by
  obtain⟨hi,_,h0,h1,h2⟩:=Jy ht hz hs h;refine⟨lL NX z d s,dv NX z d NX[s][lL NX z d s].toNat,?_,hs,hi,JL ht hz d _ h1 h2⟩;rw[dv,sU hs,dw hi]
theorem JK {NX:List (List Int)} (ht:nc NX) {z:Nat} (hz:z < NX.length):∀ (d s:Nat) (q:List Int),s < NX.length->vl NX z d s q->fc q (dv NX z d s)=false
 | 0,s,q,_,⟨e,_⟩=>by rw[e];rfl
 | d+1,s,q,hs,h=>by
  have hg:=JM ht h;obtain⟨i,q',rfl,_,hi,hw⟩:=h;obtain⟨hj,he,h0,h1,h2⟩:=Jy ht hz hs hg;have h3:=ht.mem _ (By hs) _ (By hi);have sx:=(EW ht hz (k:=d) (s:=NX[s][i].toNat) aa).2 (JM ht hw);rw[dv,sU hs,dw hj,fc]
  have hle:lL NX z d s<=i:=by
   by_cases aG:i < lL NX z d s
   .have bq:idx (fun t:Int=>(iw NX z d).getD t.toNat false) NX[s]≠(lL NX z d s:Int):=fun e=>by
     have hb:∃ k:Nat,idx (fun t:Int=>(iw NX z d).getD t.toNat false) NX[s]=(k:Int)/\k<=i:=by
      unfold idx
      cases hf:NX[s].findIdx? fun t:Int=>(iw NX z d).getD t.toNat false with
      | none=>
       rw[anB]at hf;have:=hf _ (By hi);rw[sx]at this;cases this
      | some k=>
       refine⟨k,rfl,?_⟩;rw[amG]at hf;obtain⟨g1,g2,g3⟩:=hf;by_cases wc:k<=i
       .exact wc
       .have:=g3 i aa;exact absurd sx this
     obtain⟨k,hk,fW⟩:=hb;omega
    exact absurd he bq
   .omega
  by_cases e:(i:Int)=(lL NX z d s:Int)
  .rw[if_pos e]
   have e':i=lL NX z d s:=aa
   subst e';exact JK ht hz d _ q' h1 hw
  .rw[if_neg e];exact decide_eq_false aa
theorem XU {NX:List (List Int)} {z:Nat}:∀ {d s:Nat} {q:List Int},vl NX z (d+1) s q->∃ (u:Nat) (q':List Int) (i:Nat),q=q' ++ [(i:Int)]/\vl NX u d s q'/\∃ h:u < NX.length,∃ hi:i < NX[u].length,NX[u][i].toNat=z
 | 0,s,_,⟨i,q',rfl,hs,hi,e,hz⟩=>⟨s,[],i,by rw[e];rfl,⟨rfl,rfl⟩,hs,hi,hz⟩
 | d+1,s,_,⟨i,q',rfl,hs,hi,h⟩=>by
  obtain⟨u,q2,j,e,h1,h2⟩:=XU h;exact⟨u,(i:Int) :: q2,j,by rw[e];rfl,⟨i,q2,rfl,hs,hi,h1⟩,h2⟩
theorem PJ {NX:List (List Int)} {u:Nat}:∀ {d s:Nat} {q:List Int},vl NX u d s q->∀ {i:Nat} (h:u < NX.length) (hi:i < NX[u].length),vl NX NX[u][i].toNat (d+1) s (q ++ [(i:Int)])
 | 0,s,_,⟨e,e2⟩,i,h,hi=>by subst e2;subst e;exact⟨i,[],rfl,h,hi,rfl,rfl⟩
 | d+1,s,_,⟨j,q',e,hs,hj,hw⟩,i,h,hi=>by
  subst e;exact⟨j,q' ++ [(i:Int)],rfl,hs,hj,PJ hw h hi⟩
theorem Ru {NX:List (List Int)} {F:List Int} (hF:na NX F):∀ {d s z:Nat},s < NX.length->0<=F.getD s 0->rh NX d s z->0<=F.getD z 0/\F.getD z 0<=F.getD s 0+d
 | 0,s,z,_,h0,e=>by
  obtain rfl:s=z:=e;exact⟨h0,aa⟩
 | d+1,s,z,hs,h0,⟨u,hu,hl,hg⟩=>by
  rw[sU hs]at hu;have h1:=hF.step s hs h0 _ hu;rw[amd]at h1;have:=Ru hF hl h1.1 hg;exact⟨this.1,aa⟩
theorem aep {NX:List (List Int)} (ht:nc NX) {F:List Int} (hF:na NX F) {z d:Nat} (hz:z < NX.length) (hd:F.getD z 0=((d+1:Nat):Int)):∃ (u i:Nat),∃ h:u < NX.length,∃ hi:i < NX[u].length,F.getD u 0=(d:Int)/\NX[u][i]=(z:Int)/\dv NX z (d+1) 0=dv NX u d 0 ++ [(i:Int)]:=by
 have hp:=ht.pos;have hg:=xm hF (d+1) z hz hd;have hw:=JL ht hz (d+1) 0 hp hg;have hle:=JK ht hz (d+1) 0;obtain⟨u,q,i,e,h1,h2,h3,h4⟩:=XU hw;have h5:=ht.mem _ (By h2) _ (By h3);have hu:=Ru hF hp (by rw[hF.zero];omega) (JM ht h1);rw[hF.zero]at hu;have dW:=hF.step u h2 hu.1 _ (By h3);rw[h4]at dW
 have TP:F.getD u 0=(d:Int):=aa
 have dJ:=xm hF d u h2 TP;have hwu:=JL ht h2 d 0 hp dJ;have h6:=PJ hwu h2 h3;rw[h4]at h6;have h7:=hle _ hp h6;have h8:=JK ht h2 d 0 q hp h1
 have hl:(dv NX u d 0).length=q.length:=by rw[pN,XT h1]
 rw[e,Kn _ _ hl]at h7;refine⟨u,i,h2,h3,TP,aa,?_⟩;rw[e];by_cases hq:dv NX u d 0=q
 .rw[hq]
 .rw[if_neg hq]at h7;exact absurd (Gc hl h7 h8) hq
theorem aeq {NX:List (List Int)} (ht:nc NX) {F:List Int} (hF:na NX F) {u d i:Nat} (hu:u < NX.length) (hi:i < NX[u].length) (hd:F.getD u 0=(d:Int)) {z:Nat} (hz:NX[u][i]=(z:Int)):z < NX.length/\fc (dv NX u d 0 ++ [(i:Int)]) (dv NX z (d+1) 0)=false:=by
 have hp:=ht.pos;have h3:=ht.mem _ (By hu) _ (By hi);have h6:=PJ (JL ht hu d 0 hp (xm hF d u hu hd)) hu hi;rw[hz,amd]at h6;exact⟨aa,JK ht aa (d+1) 0 _ hp h6⟩
def sV (F:List Int) (d s i u j:Nat):Prop:=F.getD u 0=(d:Int)/\(u < s\/(u=s/\j < i))
structure kA (NX:List (List Int)) (F:List Int) (q:Nat->List Int) (d s i:Nat):Prop where
 low:∀ t,t < NX.length->0 < F.getD t 0->F.getD t 0<=d->q t=dv NX t (F.getD t 0).toNat 0
 high:∀ t,t < NX.length->(F.getD t 0 < 0\/(d:Int)+1 < F.getD t 0)->q t=[]
 mid:∀ t,t < NX.length->F.getD t 0=(d:Int)+1->(q t=[]/\∀ u j (h:u < NX.length) (hj:j < NX[u].length),sV F d s i u j->NX[u][j]≠(t:Int))\/
  (∃ u j,∃ h:u < NX.length,∃ hj:j < NX[u].length,sV F d s i u j/\NX[u][j]=(t:Int)/\q t=dv NX u d 0 ++ [(j:Int)]/\∀ u' j' (h':u' < NX.length) (dG:j' < NX[u'].length),sV F d s i u' j'->NX[u'][j']=(t:Int)->fc (dv NX u' d 0 ++ [(j':Int)]) (q t)=false)
theorem aht {NX:List (List Int)} {F:List Int}:kA NX F (fun _=>[]) 0 0 0:=
 ⟨fun t _ h0 h1=>absurd h0 aa,fun _ _ _=>rfl,fun t _ _=>.inl ⟨rfl,fun u j _ _ hs=>by
  rcases hs.2 with h | ⟨_,h⟩<;>omega⟩⟩
theorem VO {NX:List (List Int)} {F:List Int} {q:Nat->List Int} {d s i s' i':Nat} (h:kA NX F q d s i) (he:∀ u j (h:u < NX.length) (hj:j < NX[u].length),sV F d s i u j↔sV F d s' i' u j):kA NX F q d s' i':=
 ⟨h.low,h.high,fun t ht hd=>by
  rcases h.mid t ht hd with⟨g1,g2⟩ | ⟨u,j,hu,hj,g1,g2,g3,g4⟩
  .exact .inl ⟨g1,fun u j hu hj hs=>g2 u j hu hj ((he u j hu hj).2 hs)⟩
  .exact .inr ⟨u,j,hu,hj,(he u j hu hj).1 g1,g2,g3,fun u' j' iR dG hs=>g4 u' j' iR dG ((he u' j' iR dG).2 hs)⟩⟩
theorem ahs {NX:List (List Int)} {F:List Int} {q:Nat->List Int} {d s:Nat} (h:kA NX F q d s 0) (hd:F.getD s 0≠(d:Int)):kA NX F q d (s+1) 0:=
 VO h fun u j _ _=>by
  unfold sV;constructor
  .rintro⟨h1,h2 | ⟨_,h2⟩⟩
   .exact⟨h1,.inl aa⟩
   .omega
  .rintro⟨h1,h2 | ⟨_,h2⟩⟩
   .by_cases e:u=s
    .subst e;exact absurd h1 hd
    .exact⟨h1,.inl aa⟩
   .omega
theorem ahr {NX:List (List Int)} {F:List Int} {q:Nat->List Int} {d s:Nat} (hs:s < NX.length) (h:kA NX F q d s NX[s].length):kA NX F q d (s+1) 0:=
 VO h fun u j hu hj=>by
  unfold sV;constructor
  .rintro⟨h1,h2 | ⟨h2,_⟩⟩
   .exact⟨h1,.inl aa⟩
   .exact⟨h1,.inl aa⟩
  .rintro⟨h1,h2 | ⟨_,h2⟩⟩
   .by_cases e:u=s
    .subst e;exact⟨h1,.inr ⟨rfl,hj⟩⟩
    .exact⟨h1,.inl aa⟩
   .omega
theorem Az {F:List Int} {d s i u j:Nat} (h:sV F d s (i+1) u j):sV F d s i u j\/(u=s/\j=i):=by
 obtain⟨h1,h2 | ⟨h2,h3⟩⟩:=h
 .exact .inl ⟨h1,.inl h2⟩
 .by_cases e:j=i
  .exact .inr ⟨h2,e⟩
  .exact .inl ⟨h1,.inr ⟨h2,aa⟩⟩
theorem Pd {F:List Int} {d s i u j:Nat} (h:sV F d s i u j):sV F d s (i+1) u j:=by
 obtain⟨h1,h2 | ⟨h2,h3⟩⟩:=h
 .exact⟨h1,.inl h2⟩
 .exact⟨h1,.inr ⟨h2,aa⟩⟩
theorem ahq {NX:List (List Int)} {F:List Int} {q:Nat->List Int} {d s i t:Nat} (h:kA NX F q d s i) (hs:s < NX.length) (hi:i < NX[s].length) (ht:NX[s][i]=(t:Int)) (hd:F.getD t 0≠(d:Int)+1):kA NX F q d s (i+1):=
 ⟨h.low,h.high,fun z hz z8=>by
  have H9:z≠t:=fun e=>by subst e;exact hd z8
  rcases h.mid z hz z8 with⟨g1,g2⟩ | ⟨u,j,hu,hj,g1,g2,g3,g4⟩
  .refine .inl ⟨g1,fun u j hu hj gy=>?_⟩
   rcases Az gy with gy | ⟨rfl,rfl⟩
   .exact g2 u j hu hj gy
   .rw[ht];omega
  .refine .inr ⟨u,j,hu,hj,Pd g1,g2,g3,fun u' j' iR dG gy he=>?_⟩
   rcases Az gy with gy | ⟨rfl,rfl⟩
   .exact g4 u' j' iR dG gy he
   .rw[ht]at he;omega⟩
theorem ahn {NX:List (List Int)} {F:List Int} {q:Nat->List Int} {d s i t:Nat} (h:kA NX F q d s i) (hs:s < NX.length) (hi:i < NX[s].length) (ht:NX[s][i]=(t:Int)) (hn:q t≠[]) (hb:fc (dv NX s d 0 ++ [(i:Int)]) (q t)=false):kA NX F q d s (i+1):=
 ⟨h.low,h.high,fun z hz z8=>by
  rcases h.mid z hz z8 with⟨g1,g2⟩ | ⟨u,j,hu,hj,g1,g2,g3,g4⟩
  .refine .inl ⟨g1,fun u j hu hj gy=>?_⟩
   rcases Az gy with gy | ⟨rfl,rfl⟩
   .exact g2 u j hu hj gy
   .rw[ht];intro e
    obtain rfl:t=z:=aa
    exact hn g1
  .refine .inr ⟨u,j,hu,hj,Pd g1,g2,g3,fun u' j' iR dG gy he=>?_⟩
   rcases Az gy with gy | ⟨rfl,rfl⟩
   .exact g4 u' j' iR dG gy he
   .rw[ht]at he
    obtain rfl:t=z:=aa
    exact hb⟩
theorem Qv:∀ {a b:List Int},fc a b=true->fc b a=false
 | [],[],h=>by cases h
 | [],_ :: _,h=>by cases h
 | _ :: _,[],h=>by cases h
 | a :: l,b :: m,h=>by
  rw[fc]at h ⊢;by_cases e:a=b
  .subst e;rw[if_pos rfl]at h ⊢;exact Qv h
  .rw[if_neg e]at h;have:=of_decide_eq_true h;rw[if_neg (ann e)];exact decide_eq_false aa
theorem Ko {a b c:List Int} (h1:a.length=b.length) (h2:b.length=c.length) (g1:fc a b=true) (g2:fc c b=false):fc c a=false:=Kp h1 h2 (Qv g1) g2
theorem aho {NX:List (List Int)} {F:List Int} {q:Nat->List Int} {d s i t:Nat} (h:kA NX F q d s i) (ht:t < NX.length) (hd:F.getD t 0=(d:Int)+1) (hn:q t≠[]):(q t).length=d+1:=by
 rcases h.mid t ht hd with⟨g1,_⟩ | ⟨u,j,_,_,_,_,g,_⟩
 .exact absurd g1 hn
 .rw[g,amp,pN];rfl
theorem ahu {NX:List (List Int)} {F:List Int} {q:Nat->List Int} {d s i t:Nat} (h:kA NX F q d s i) (hs:s < NX.length) (TE:F.getD s 0=(d:Int)) (hi:i < NX[s].length) (ht:NX[s][i]=(t:Int)) (ia:t < NX.length) (hd:F.getD t 0=(d:Int)+1) (hb:q t=[]\/fc (dv NX s d 0 ++ [(i:Int)]) (q t)=true):kA NX F (fun z=>if z=t then dv NX s d 0 ++ [(i:Int)] else q z) d s (i+1):=
 ⟨fun z hz h0 h1=>by
  have H9:z≠t:=fun e=>by subst e;omega
  simp only[if_neg H9]
  exact h.low z hz h0 h1,fun z hz h0=>by
  have H9:z≠t:=fun e=>by subst e;omega
  simp only[if_neg H9]
  exact h.high z hz h0,fun z hz z8=>by
  by_cases e:z=t
  .subst e;rw[if_pos rfl];refine .inr ⟨s,i,hs,hi,⟨TE,.inr ⟨rfl,aa⟩⟩,ht,rfl,fun u' j' iR dG gy he=>?_⟩
   rcases Az gy with gy | ⟨rfl,rfl⟩
   .rcases h.mid z hz z8 with⟨g1,g2⟩ | ⟨u,j,hu,hj,g1,g2,g3,g4⟩
    .exact absurd he (g2 u' j' iR dG gy)
    .rcases hb with hb | hb
     .rw[hb]at g3;exact absurd g3.symm ak
     .have hq:(q z).length=d+1:=by rw[g3,amp,pN];rfl
      exact Ko (b:=q z) (by rw[hq,amp,pN];rfl) (by rw[hq,amp,pN];rfl) hb (g4 u' j' iR dG gy he)
   .exact Dc _
  .simp only[if_neg e]
   rcases h.mid z hz z8 with⟨g1,g2⟩ | ⟨u,j,hu,hj,g1,g2,g3,g4⟩
   .refine .inl ⟨g1,fun u j hu hj gy=>?_⟩
    rcases Az gy with gy | ⟨rfl,rfl⟩
    .exact g2 u j hu hj gy
    .rw[ht];omega
   .refine .inr ⟨u,j,hu,hj,Pd g1,g2,g3,fun u' j' iR dG gy he=>?_⟩
    rcases Az gy with gy | ⟨rfl,rfl⟩
    .exact g4 u' j' iR dG gy he
    .rw[ht]at he;omega⟩
theorem ahp {NX:List (List Int)} (ht:nc NX) {F:List Int} (hF:na NX F) {q:Nat->List Int} {d:Nat} (h:kA NX F q d NX.length 0):kA NX F q (d+1) 0 0:=by
 have dY:∀ u j (hu:u < NX.length) (hj:j < NX[u].length),F.getD u 0=(d:Int)->sV F d NX.length 0 u j:=fun u j hu _ hd=>⟨hd,.inl hu⟩
 have mQ:∀ t,t < NX.length->F.getD t 0=(d:Int)+1->q t=dv NX t (d+1) 0:=fun t ia hd=>by
  obtain⟨u,i,hu,hi,h1,h2,h3⟩:=aep ht hF ia (d:=d) aa
  rcases h.mid t ia hd with⟨_,g2⟩ | ⟨u',j',iR,dG,g1,g2,g3,g4⟩
  .exact absurd h2 (g2 u i hu hi (dY u i hu hi h1))
  .have k1:=g4 u i hu hi (dY u i hu hi h1) h2;rw[<- h3]at k1;have k2:=(aeq ht hF iR dG g1.1 g2).2;rw[<- g3]at k2;exact Gc (by rw[g3,amp,pN,pN];rfl) k2 k1
 refine⟨fun t ia h0 h1=>?_,fun t ia h0=>h.high t ia aa,fun t ia hd=>.inl ⟨h.high t ia aa,fun u j _ _ hs=>by
  rcases hs.2 with h | ⟨_,h⟩<;>omega⟩⟩
 by_cases e:F.getD t 0<=(d:Int)
 .exact h.low t ia h0 e
 .have e2:F.getD t 0=(d:Int)+1:=aa
  rw[mQ t ia e2,e2];rfl
theorem ahm {NX:List (List Int)} {F:List Int} (hF:na NX F) {q:Nat->List Int} {d s i u:Nat} (h:kA NX F q d s i) (hu:u < NX.length) (hd:F.getD u 0=(d:Int)):(u=0->dv NX u d 0=[])/\(u≠0->q u=dv NX u d 0):=by
 refine⟨fun e=>?_,fun e=>?_⟩
 .subst e;rw[hF.zero]at hd
  obtain rfl:d=0:=aa
  rfl
 .have h0:0 < F.getD u 0:=by
   have:=hF.one u hu;by_cases e2:F.getD u 0=0
   .exact absurd (this e2) e
   .omega
  have:=h.low u hu h0 aa;rw[this,hd,amd]
def w5 (q b:List Int):Bool:=b.isEmpty || decide (q.length < b.length) || (decide (q.length=b.length) && fc q b)
def oM (w:List Int) (g:List Bool) (b:List Int):Nat->List Int
 | 0=>b
 | k+1=>if g.getD k true=false/\w5 (w ++ [(k:Int)]) (oM w g b k)=true then w ++ [(k:Int)] else oM w g b k
def sa (W:Nat->List Int) (F:List Int) (GD:List (List Bool)):Nat->List Int
 | 0=>[]
 | s+1=>if F.getD s 0 < 0 then sa W F GD s else oM (W s) (GD.getD s []) (sa W F GD s) (GD.getD s []).length
def vk (C:List Int->Prop) (b:List Int):Prop:=(b=[]/\∀ q,¬ C q)\/(b≠[]/\C b/\∀ q,C q->b.length<=q.length/\(q.length=b.length->fc q b=false))
theorem aeo {C:List Int->Prop} {a b:List Int} (ha:vk C a) (hb:vk C b):a=b:=by
 rcases ha with⟨rfl,ha⟩ | ⟨_,h1,h2⟩
 .rcases hb with⟨rfl,_⟩ | ⟨_,g1,_⟩
  .rfl
  .exact absurd g1 (ha _)
 .rcases hb with⟨_,hb⟩ | ⟨_,g1,g2⟩
  .exact absurd h1 (hb _)
  .have e1:=h2 b g1;have e2:=g2 a h1
   have e:a.length=b.length:=aa
   exact Gc e (e2.2 e) (e1.2 e.symm)
theorem IA {C D:List Int->Prop} {b:List Int} (h:∀ q,C q↔D q) (hb:vk C b):vk D b:=by
 have:C=D:=funext fun q=>propext (h q)
 rwa [<- this]
theorem aen {C:List Int->Prop} {b q:List Int} (hq:q≠[]) (hb:vk C b):vk (fun x=>C x\/x=q) (if w5 q b=true then q else b):=by
 unfold w5
 rcases hb with⟨rfl,h⟩ | ⟨h0,h1,h2⟩
 .simp only[List.isEmpty_nil,Bool.true_or,if_true];refine .inr ⟨hq,.inr rfl,fun x hx=>?_⟩
  rcases hx with hx | rfl
  .exact absurd hx (h x)
  .exact⟨amh _,fun _=>Dc _⟩
 .have zr:b.isEmpty=false:=by cases b with | nil=>exact absurd rfl h0 | cons _ _=>rfl
  rw[zr];simp only[anz,amU,OF,decide_eq_true_eq];by_cases hc:q.length < b.length\/(q.length=b.length/\fc q b=true)
  .rw[if_pos hc];refine .inr ⟨hq,.inr rfl,fun x hx=>?_⟩
   rcases hx with hx | rfl
   .have:=h2 x hx
    rcases hc with hc | ⟨hc,lA⟩
    .exact⟨aa,fun h=>aa⟩
    .exact⟨aa,fun h=>Ko hc aa lA (this.2 aa)⟩
   .exact⟨amh _,fun _=>Dc _⟩
  .rw[if_neg hc];simp only[not_or,not_and]at hc;refine .inr ⟨h0,.inl h1,fun x hx=>?_⟩
   rcases hx with hx | rfl
   .exact h2 x hx
   .exact⟨aa,fun h=>by simpa using hc.2 h⟩
def JZ (W:Nat->List Int) (F:List Int) (GD:List (List Bool)) (s i:Nat) (q:List Int):Prop:=∃ u j,(u < s\/(u=s/\j < i))/\0<=F.getD u 0/\j < (GD.getD u []).length/\(GD.getD u []).getD j true=false/\q=W u ++ [(j:Int)]
theorem Qx (W:Nat->List Int) (F:List Int) (GD:List (List Bool)) (s:Nat) (b:List Int) (h0:0<=F.getD s 0) (hb:vk (JZ W F GD s 0) b):∀ k,k<=(GD.getD s []).length->vk (JZ W F GD s k) (oM (W s) (GD.getD s []) b k)
 | 0,_=>hb
 | k+1,hk=>by
  have ih:=Qx W F GD s b h0 hb k aa;rw[oM]
  cases hg:(GD.getD s []).getD k true with
  | true=>
   rw[if_neg ak];refine IA (fun q=>⟨?_,?_⟩) ih
   .rintro⟨u,j,h1,h2⟩;exact⟨u,j,aa,h2⟩
   .rintro⟨u,j,h1,h2,h3,h4,h5⟩;refine⟨u,j,?_,h2,h3,h4,h5⟩
    rcases h1 with h1 | ⟨h1,GZ⟩
    .exact .inl h1
    .subst h1;by_cases e:j=k
     .subst e;rw[hg]at h4;cases h4
     .exact .inr ⟨rfl,aa⟩
  | false=>
   have h:=aen (q:=W s ++ [(k:Int)]) ak ih
   have e:(if (false=false/\w5 (W s ++ [(k:Int)]) (oM (W s) (GD.getD s []) b k)=true) then W s ++ [(k:Int)] else oM (W s) (GD.getD s []) b k)=(if w5 (W s ++ [(k:Int)]) (oM (W s) (GD.getD s []) b k)=true then W s ++ [(k:Int)] else oM (W s) (GD.getD s []) b k):=ak
   rw[e];refine IA (fun q=>⟨?_,?_⟩) h
   .rintro (⟨u,j,h1,h2⟩ | rfl)
    .exact⟨u,j,aa,h2⟩
    .exact⟨s,k,aa,h0,aa,hg,rfl⟩
   .rintro⟨u,j,h1,h2,h3,h4,h5⟩;by_cases e2:u=s/\j=k
    .obtain⟨rfl,rfl⟩:=e2;exact .inr h5
    .exact .inl ⟨u,j,aa,h2,h3,h4,h5⟩
theorem Qy (W:Nat->List Int) (F:List Int) (GD:List (List Bool)):∀ s,vk (JZ W F GD s 0) (sa W F GD s)
 | 0=>.inl ⟨rfl,fun q ⟨u,j,h,_⟩=>aa⟩
 | s+1=>by
  have ih:=Qy W F GD s;rw[sa];by_cases hf:F.getD s 0 < 0
  .rw[if_pos hf];refine IA (fun q=>⟨?_,?_⟩) ih
   .rintro⟨u,j,h1,h2⟩;exact⟨u,j,aa,h2⟩
   .rintro⟨u,j,h1,h2,h3⟩;refine⟨u,j,?_,h2,h3⟩;by_cases e:u=s
    .subst e;omega
    .omega
  .rw[if_neg hf];refine IA (fun q=>⟨?_,?_⟩) (Qx W F GD s _ aa ih _ (amh _))
   .rintro⟨u,j,h1,h2⟩;exact⟨u,j,aa,h2⟩
   .rintro⟨u,j,h1,h2,h3,h4⟩;refine⟨u,j,?_,h2,h3,h4⟩;by_cases e:u=s
    .subst e;exact .inr ⟨rfl,h3⟩
    .omega
theorem Vm {l:List Bool} {i:Nat} (hi:i < l.length) (h:l.getD i true=false):0<=kc l/\kc l<=i:=by
 have hl:l[i]=false:=by rwa [dw hi]at h
 by_cases hn:kc l < 0
 .have:=Vn hn i hi;rw[hl]at this;cases this
 .refine⟨aa,?_⟩;unfold kc idx at hn ⊢
  cases hf:l.findIdx? (fun b=>false == b) with
  | none=>rw[hf]at hn;simp at hn
  | some k=>
   obtain⟨hk,_,hm⟩:=amG.1 hf;by_cases wc:i < k
   .have:=hm i wc;rw[hl]at this;simp at this
   .simp only;omega
theorem Ky:∀ {a b:List Int},a.length=b.length->(lP a b < 0↔fc a b=true)
 | [],[],_=>by simp[lP,fc]
 | a :: l,b :: m,h=>by
  rw[lP,fc];by_cases h1:a < b
  .rw[if_pos h1,if_neg aa];simp[h1]
  .rw[if_neg h1];by_cases h2:b < a
   .rw[if_pos h2,if_neg aa];simp[h1]
   .rw[if_neg h2,if_pos aa];exact Ky (by simpa using h)
theorem De (TN:List (List Int)) (F:List Int) (GD:List (List Bool)) (eL:Int):∀ k s,s < k->0<=eL->F.getD s 0=eL->0<=kc (GD.getD s [])->j0 TN F GD eL k≠[]/\fc (nM TN GD eL s) (j0 TN F GD eL k)=false
 | 0,s,h,_,_,_=>aa
 | k+1,s,h,h0,hF,hn=>by
  have hlen:∀ u,(nM TN GD eL u).length=eL.toNat+1:=fun u=>by simp[nM,pN]
  have fI:j0 TN F GD eL k≠[]->(j0 TN F GD eL k).length=eL.toNat+1:=fun hb=>by
   rcases w8 TN F GD eL k with⟨g,_⟩ | ⟨_,u,_,_,_,g⟩
   .exact absurd g hb
   .rw[g];exact hlen u
  rw[j0];by_cases hc:kc (GD.getD k []) < 0\/eL < 0\/F.getD k 0≠eL
  .rw[if_pos hc]
   have:s≠k:=fun e=>by subst e;omega
   exact De TN F GD eL k s aa h0 hF hn
  .rw[if_neg hc];by_cases hb:j0 TN F GD eL k=[]\/lP (nM TN GD eL k) (j0 TN F GD eL k) < 0
   .rw[if_pos hb];refine⟨akr _ _ _ _,?_⟩;by_cases e:s=k
    .subst e;exact Dc _
    .obtain⟨g1,g2⟩:=De TN F GD eL k s aa h0 hF hn
     rcases hb with hb | hb
     .exact absurd hb g1
     .have DZ:=fI g1;have:=(Ky (by rw[hlen,DZ])).1 hb;exact Ko (by rw[hlen,DZ]) (by rw[hlen,DZ]) this g2
   .rw[if_neg hb];simp only[not_or]at hb;refine⟨hb.1,?_⟩;by_cases e:s=k
    .subst e;have DZ:=fI hb.1;have:=mt (Ky (by rw[hlen,DZ])).2 hb.2;simpa using this
    .exact (De TN F GD eL k s aa h0 hF hn).2
theorem afM (TN:List (List Int)) (F:List Int) (GD:List (List Bool)) (W:Nat->List Int) (hW:∀ s d:Nat,s < TN.length->F.getD s 0=(d:Int)->W s=dv TN s d 0):sa W F GD TN.length=Ao TN F GD:=by
 refine aeo (Qy W F GD TN.length) ?_
 have jH:∀ (s d:Nat) (j:Int),(dv TN s d 0 ++ [j]).length=d+1:=fun s d j=>by simp[pN]
 unfold Ao
 rcases Cs F GD TN.length with⟨_,h2⟩ | ⟨h1,⟨u,h2,h3,h4⟩,h5⟩
 .rcases w8 TN F GD (lW F GD TN.length) TN.length with⟨g1,_⟩ | ⟨g1,s,g2,g3,g4,_⟩
  .refine .inl ⟨g1,?_⟩;rintro q ⟨s,j,hs,h0,hj,hg,_⟩;have:=h2 s aa h0;have:=Vm hj hg;omega
  .have:=h2 s g2 aa;omega
 .obtain⟨d,hd⟩:=ami h1;rw[hd]at h3 h5 ⊢;obtain⟨b1,b2⟩:=De TN F GD (d:Int) TN.length u h2 aa h3 h4;refine .inr ⟨b1,?_,?_⟩
  .rcases w8 TN F GD (d:Int) TN.length with⟨g1,_⟩ | ⟨_,s,g2,g3,g4,g5⟩
   .exact absurd g1 b1
   .obtain⟨i,hi,he,hg⟩:=Vo (show ¬ kc (GD.getD s []) < 0 by omega);refine⟨s,i,.inl g2,aa,hi,by rw[dw hi];exact hg,?_⟩;rw[g5,nM,he,hW s d g2 g3,amd]
  .rintro q ⟨s,j,hs,h0,hj,hg,rfl⟩
   have o0:s < TN.length:=aa
   obtain⟨n1,n2⟩:=Vm hj hg;obtain⟨e,he⟩:=ami h0;have Ht:=h5 s o0 h0 n1
   have fI:(j0 TN F GD (d:Int) TN.length).length=d+1:=by
    rcases w8 TN F GD (d:Int) TN.length with⟨g1,_⟩ | ⟨_,s,_,_,_,g5⟩
    .exact absurd g1 b1
    .rw[g5,nM,amd,jH]
   rw[hW s e o0 he,jH,fI];refine⟨aa,fun heq=>?_⟩
   obtain rfl:e=d:=aa
   obtain⟨_,c2⟩:=De TN F GD (e:Int) TN.length s o0 aa he n1;refine Kp (b:=nM TN GD (e:Int) s) ?_ ?_ c2 ?_
   .rw[nM,amd,jH,fI]
   .rw[nM,amd,jH,jH]
   .rw[nM,amd,Kn _ _ rfl,if_pos rfl];simp only[fc];split
    .rfl
    .simp only[decide_eq_false_iff_not];omega
end Go.Proofs.YtobejfcgcfdpfaaGreatDoor
namespace Go.Av
section
variable {P:Program} {T:Ty} {Mv X:Nat->Prop} {G:aB} {N:Fr} {ops:Array Oper} {σ:St}
def J3 (P:Program) (T:Ty) (Mv:Nat->Prop) (G:aB) (N:Fr) (ap db hv:List Nat) (ex:List (Nat×AV)) (ops:Array Oper) (i:Nat) (o:Oper) (σ aH:St):Prop:=
 (ap.contains i=true/\fb N o/\o.guard=none/\eD o.op=none/\ic o.op=true/\∃ c x ba,wr T G Mv σ o=some (c,x,ba)/\c/\aH=⟨aN ba.env o.dst x,ba.H⟩)\/
 (ap.contains i=false/\ri P T Mv G N [] db hv ex ops i o σ aH)
def Gn (ap db hv:List Nat) (ex:List (Nat×AV)) (ops:Array Oper) (i j:Nat) (oi oj:Oper):Bool:=!ap.contains i && !ap.contains j && Dj db hv ex ops i j oi oj
theorem afk (hg:Good P T) (ap db hv:List Nat) (ex:List (Nat×AV)):Sound P X G N Mv (J3 P T Mv G N ap db hv ex ops) ops:=fun i o ho σ aH h w μ a hi Q K hk=>by
 rcases h with⟨_,hd,dJ,hc,hw,c,x,ba,h1,h2,rfl⟩ | ⟨_,h⟩
 .refine AH hg ⟨hd,.inl ⟨lM dJ,?_⟩⟩ hi ho hk;unfold po;simp only[hc];rw[if_pos hw];exact⟨c,x,ba,h1,h2,rfl⟩
 .exact IH hg [] db hv ex i o ho _ _ h w μ a hi hk
theorem afl (ap db hv:List Nat) (ex:List (Nat×AV)):wZ (J3 P T Mv G N ap db hv ex ops) (Gn ap db hv ex ops) ops:=fun i j oi oj ir fM hc σ ba iB h1 h2=>by
 simp only[Gn,OF,ant]at hc;obtain⟨⟨ai,aj⟩,hc⟩:=hc
 rcases h1 with⟨bi,_⟩ | ⟨_,h1⟩
 .rw[ai]at bi;cases bi
 rcases h2 with⟨bj,_⟩ | ⟨_,h2⟩
 .rw[aj]at bj;cases bj
 obtain⟨jK,f1,f2⟩:=Oi [] db hv ex i j oi oj ir fM hc σ ba iB h1 h2;exact⟨jK,.inr ⟨aj,f1⟩,.inr ⟨ai,f2⟩⟩
def FM (P:Program) (T:Ty) (Mv:Nat->Prop) (G:aB) (N:Fr) (ap db hv:List Nat) (ex:List (Nat×AV)) (ops:Array Oper) (i:Nat) (o:Oper) (σ:St) (K:St->Prop):Prop:=
 if ap.contains i=true then fb N o/\o.guard=none/\eD o.op=none/\ic o.op=true/\match wr T G Mv σ o with
  | some (c,x,ba)=>c/\K ⟨aN ba.env o.dst x,ba.H⟩
  | none=>False
 else CM P T Mv G N [] db hv ex ops i o σ K
def wQ (P:Program) (T:Ty) (Mv:Nat->Prop) (G:aB) (N:Fr) (ap db hv:List Nat) (ex:List (Nat×AV)) (ops:Array Oper) (K:St->Prop):List (Nat×Oper)->St->Prop
 | [],σ=>K σ
 | (i,o) :: rest,σ=>FM P T Mv G N ap db hv ex ops i o σ (wQ P T Mv G N ap db hv ex ops K rest)
theorem ajs {ap db hv:List Nat} {ex:List (Nat×AV)} {K:St->Prop}:∀ (l:List Nat) (σ:St),(∀ i∈l,i < ops.size)->wQ P T Mv G N ap db hv ex ops K (b8 ops l) σ->∃ cF,K cF/\ja (J3 P T Mv G N ap db hv ex ops) ops l σ cF:=by
 intro l
 induction l with
 | nil=>intro σ _ h;exact⟨σ,h,rfl⟩
 | cons i l ih=>
  intro σ hl h;have hi:=hl i ak
  have ho:ops[i]? = some ops[i]:=by simp[hi]
  have aR:b8 ops (i :: l)=(i,ops[i]) :: b8 ops l:=by simp[b8,hi]
  rw[aR]at h;have h:FM P T Mv G N ap db hv ex ops i ops[i] σ (wQ P T Mv G N ap db hv ex ops K (b8 ops l)):=h;unfold FM at h;split at h
  .rename_i ha;obtain⟨hd,dJ,hc,hw,h⟩:=h;split at h
   .rename_i c x ba h1;obtain⟨cU,h⟩:=h;obtain⟨cF,hk,hr⟩:=ih _ (fun j hj=>hl j (by simp[hj])) h;exact⟨cF,hk,_,ho,_,.inl ⟨ha,hd,dJ,hc,hw,c,x,ba,h1,cU,rfl⟩,hr⟩
   .exact h.elim
  .rename_i ha
   have D9:b8 ops [i]=[(i,ops[i])]:=by simp[b8,hi]
   have hm:AL P T Mv G N [] db hv ex ops (wQ P T Mv G N ap db hv ex ops K (b8 ops l)) (b8 ops [i]) σ:=by rw[D9];exact h
   obtain⟨ba,bO,o',qK,FX,hs,qa⟩:=Pt [i] σ (by simpa using hi) (fun r hr=>by cases hr) hm;have qa:FX=ba:=qa;subst qa;obtain⟨cF,hk,hr⟩:=ih _ (fun j hj=>hl j (by simp[hj])) bO;exact⟨cF,hk,o',qK,_,.inr ⟨by simpa using ha,hs⟩,hr⟩
theorem Ym (hg:Good P T) (hm:P.follows .mixedOrders=true) (ap db hv:List Nat) (ex:List (Nat×AV)) (ord:List Nat) {id:Nat} (cf:pJ (Gn ap db hv ex ops) ord ops=true) {Q:Exit->St->Prop} (h:wQ P T Mv G N ap db hv ex ops (fun aH=>Q .normal aH) (b8 ops ord) σ):AW P Mv X G N (.region id ops true) Q σ:=
 wY hm (afk hg ap db hv ex) (afl ap db hv ex) ord cf fun aG=>ajs ord σ aG h
theorem P9 (hg:Good P T) (hm:P.follows .mixedOrders=true) (ap db hv:List Nat) (ex:List (Nat×AV)) (ord:List Nat) {id:Nat} (cf:pJ (Gn ap db hv ex ops) ord ops=true) {Q:Exit->St->Prop}
  (h:∀ K:St->Prop,(∀ τ:St,Q .normal τ->K τ)->wQ P T Mv G N ap db hv ex ops K (b8 ops ord) σ):AW P Mv X G N (.region id ops true) Q σ:=Ym hg hm ap db hv ex ord cf (h _ fun _ h=>h)
theorem oH {ap db hv:List Nat} {ex:List (Nat×AV)} {K:St->Prop} {i:Nat} {l:List Nat} {o:Oper} (ho:ops[i]? = some o) (h:∀ K':St->Prop,(∀ τ,wQ P T Mv G N ap db hv ex ops K (b8 ops l) τ->K' τ)->FM P T Mv G N ap db hv ex ops i o σ K'):wQ P T Mv G N ap db hv ex ops K (b8 ops (i :: l)) σ:=by
 have:b8 ops (i :: l)=(i,o) :: b8 ops l:=by simp[b8,ho]
 rw[this];exact h _ fun _ h=>h
theorem Xw {ap db hv:List Nat} {ex:List (Nat×AV)} {K:St->Prop} (h:K σ):wQ P T Mv G N ap db hv ex ops K (b8 ops []) σ:=h
end
attribute [simp] FM
end Go.Av
namespace Go.Proofs.YtobejfcgcfdpfaaGreatDoor
open Go.Av
def dB (p:aM) (n:iD):Int:=if 3<=n.kind then n.count+1 else if n.kind=2 then 2 else if n.kind=1/\kJ p n=true then 2 else 0
def fC (p:aM):List Int:=p.names.map (dB p)
theorem OM {p:aM} (hg:lu p) {i:Nat} (hi:i < p.names.length):partOf p.names[i] (kJ p p.names[i]) i=if dB p p.names[i]=0 then [] else [⟨i,dB p p.names[i],decide (3<=p.names[i].kind)⟩]:=by
 have h4:=hg.name _ (By hi);have h5:=hg.count _ (By hi);generalize p.names[i]=n at h4 h5 ⊢;unfold partOf dB;by_cases k3:3<=n.kind
 .have n2:¬ (n.kind=2\/n.kind=1/\kJ p n=true):=aa
  have n1:n.kind≠1:=aa
  have n0:¬ n.count+1=0:=aa
  rw[if_neg n2,if_pos n1,if_pos k3,if_neg n0];simp[k3]
 .by_cases k2:n.kind=2
  .rw[if_pos (.inl k2),if_neg k3,if_pos k2];simp[k3]
  .have k1:n.kind=1:=aa
   rw[if_neg k3,if_neg k2];by_cases he:kJ p n=true
   .have e3:n.kind=1/\kJ p n=true:=⟨k1,he⟩;have e2:n.kind=2\/n.kind=1/\kJ p n=true:=.inr e3;rw[if_pos e2,if_pos e3];simp[k3]
   .have e1:¬ (n.kind=2\/n.kind=1/\kJ p n=true):=fun h=>h.elim k2 fun h=>he h.2;have e2:¬ (n.kind=1/\kJ p n=true):=fun h=>he h.2;rw[if_neg e1,if_neg (fun h=>h k1),if_neg e2,if_pos rfl]
theorem VI (p:aM) (n:Nat):∀ d,∃ R,ij p (n+d)=ij p n ++ R
 | 0=>⟨[],ak⟩
 | d+1=>by
  obtain⟨R,h⟩:=VI p n d;rw[<- am6,ij,h];exact⟨_,am4 _ _ _⟩
def jW (p:aM) (i:Nat):List kX:=(bF p).drop (ij p i).length
theorem ai0 (p:aM):jW p 0=bF p:=rfl
theorem Xa (p:aM):jW p p.names.length=[]:=amH (amh _)
theorem Xd {p:aM} {i:Nat} (hi:i < p.names.length):jW p i=partOf p.names[i] (kJ p p.names[i]) i ++ jW p (i+1):=by
 obtain⟨R,h⟩:=VI p (i+1) (p.names.length - (i+1));rw[show i+1+(p.names.length - (i+1))=p.names.length by omega]at h;have e:bF p=ij p (i+1) ++ R:=h
 have e1:jW p (i+1)=R:=by
  unfold jW;rw[e,List.drop_left]
 have e2:ij p (i+1)=ij p i ++ partOf p.names[i] (kJ p p.names[i]) i:=I7 hi;rw[e1];unfold jW;rw[e,e2,am4,List.drop_left]
theorem Xb {p:aM} {i:Nat} {x:kX} (h:x∈jW p i):x∈bF p:=am3 h
theorem Xc {p:aM} (hg:lu p) (s:cN) {i:Nat} (hi:i < p.names.length):ie (jW p i) s=if dB p p.names[i]=0 then ie (jW p (i+1)) s else (if 3<=p.names[i].kind then s.ct.getD i 0 else if s.is.getD i false then 1 else 0)+dB p p.names[i] * ie (jW p (i+1)) s:=by
 rw[Xd hi,OM hg hi];by_cases h:dB p p.names[i]=0
 .rw[if_pos h,if_pos h,ang]
 .rw[if_neg h,if_neg h,ank,ie];congr 1;unfold uo;by_cases k3:3<=p.names[i].kind
  .simp[k3]
  .simp[k3]
theorem ahH {p:aM} (hg:lu p) {i:Nat} (hi:i < p.names.length):bT (ij p (i+1))=if dB p p.names[i]=0 then bT (ij p i) else bT (ij p i) * dB p p.names[i]:=by
 rw[I7 hi,Fw,OM hg hi];by_cases h:dB p p.names[i]=0
 .rw[if_pos h,if_pos h];simp[bT]
 .rw[if_neg h,if_neg h];simp[bT]
theorem ajg {p:aM} (hg:lu p) (n:Int) (s:cN) {i:Nat} (hi:i < p.names.length):o7 (jW p i) n s=if dB p p.names[i]=0 then o7 (jW p (i+1)) n s else o7 (jW p (i+1)) (n / dB p p.names[i]) (sS ⟨i,dB p p.names[i],decide (3<=p.names[i].kind)⟩ (n % dB p p.names[i]) s):=by
 rw[Xd hi,OM hg hi];by_cases h:dB p p.names[i]=0
 .rw[if_pos h,if_pos h,ang]
 .rw[if_neg h,if_neg h,ank,o7]
def jc (x:kX):List D:=[.v (.int .i64 x.nm),.v (.int .i64 x.most),.v (.bool x.far)]
def oO (l:List kX):D:=.sl none (l.map jc)
def sc (p:aM) (st fO:Int) (nx:List (List D)):List D:=[ck p.names,eZ p.aC,.v (.int .i64 st),.v (.int .i64 fO),.sl none nx,oO (bF p),gd (bl p)]
def uW (p:aM) (st fO:Int) (nx:List (List D)):List (Nat×Row):=[(25,.box 75 [.d (ck p.names),.d (eZ p.aC),.d (.v (.int .i64 st)),.d (.v (.int .i64 fO)),.own 800 0 nx.length,.d (oO (bF p)),.d (gd (bl p))]),(800,.sl 36 1 nx)]
def pV (p:aM) (st fO:Int) (nx:List (List D)):D:=.ip (sc p st fO nx)
def eW (l:List (List Int)):List (List D):=l.map fun r=>[gd r]
theorem Cv (l:List (List Int)):(eW l).length=l.length:=by simp[eW]
theorem Xn (G:aB) (p:aM) (hp:p.names.length < 2^40):MC prog G [] 67 [.d (fH p)] (aw []) (.agg [.own 701 0 (kU p).is.length,.own 702 0 (kU p).ct.length]) (aw [(701,.sl 4 1 ((kU p).is.map fun b=>[.v (.bool b)])),(702,.sl 3 1 ((kU p).ct.map fun n=>[.v (.int .i64 n)]))]):=by
 have jE:(p.names.map bw).length=p.names.length:=ak
 simp only[fH,fe,ck,eZ,kU,amO,List.length_replicate];rw[<- jE];rw[<- jE]at hp;generalize p.names.map bw=NN at *;generalize p.aC.map de=RR at *;refine MC.aO (ay _) func67 rfl rfl (rs:=[.cell 2 82]) results67 (by simp[ntmps67]) rfl fun X=>?_;simp only[ntmps67];refine ar [1,2] [1,2] ?_;refine gu 1 ?_;refine JW (ay _) ah ([]) ([]) ([0,1,2,4,5,6,3,7,8,9]) [2] [2,6,10] (dT rfl) ah fun K' ao=>?_;(repeat refine qZ rfl fun K2 au=>?_;simp[mX,gL];(repeat refine⟨aa,?_⟩);refine au _ ?_;clear au K2);refine yA (ao _ ?_);refine AW.st (by simp[mX,gL];rfl) ?_;refine AW.imp (aL.eb (r:=6) (r':=701) bD ak) ?_;refine AW.st (by simp[iN,iM,Go.Av.eb,rZ];rfl) ?_;refine AW.imp (aL.eb (r:=10) (r':=702) bD ak) ?_;refine AW.st (by simp[iN,iM,Go.Av.eb,rZ];rfl) ?_;exact fP
theorem ae3 (G:aB) (p:aM) (aV:cO p=none) (st fO:Int) (nx:List (List D)) (n:Int) (h0:0<=n) (h1:n<=2^40):MC prog G [25,800] 24 [.ref 25 0 0,.d (ab n)] (aw (uW p st fO nx)) (.d (se (jb p n))) (aw (uW p st fO nx)):=by
 have hg:=gb aV;have fL:=hg.names;have dW:=Xn G p aa;have zm:∀ x∈bF p,yQ p x:=fun x hx=>nJ hg hx
 have e7:(kU p).is.length=p.names.length:=by simp[kU]
 have fA:(kU p).ct.length=p.names.length:=by simp[kU]
 have rE:o7 ((bF p).drop 0) n (kU p)=jb p n:=rfl;have nY:=Fo p p.names.length;have DO:ij p p.names.length=bF p:=rfl;rw[DO]at nY;simp only[fH,fe,ck,eZ]at dW;simp only[uW,ck,eZ,oO,gd,ab,se,pS,ff];generalize abl:jb p n=J0 at *;generalize hST:kU p=ST at *;generalize Lz:bF p=da at *
 have zp:(da.map jc).length=da.length:=ak
 have DV:∀ i (h:i < da.length),(da.map jc)[i]? = some [.v (.int .i64 da[i].nm),.v (.int .i64 da[i].most),.v (.bool da[i].far)]:=fun i h=>by simp[h,jc]
 generalize da.map jc=PT at *;generalize (bl p).map (fun n=>[D.v (.int .i64 n)])=IN at *;generalize p.names.map bw=NN at *;generalize p.aC.map de=RR at *;refine MC.aO (ay _) func24 rfl rfl (rs:=[.cell 4 82]) results24 (by simp[ntmps24]) rfl fun X=>?_;simp only[ntmps24];have fw:=@an8;refine ae fw [0,1,4] [25,800,4] ?_;refine bK fw dW [0,1,4,5] [25,800,4,5,701,702] ?_;refine ag fun K1 aF=>ae fw [1,4,5,17,18,19] [25,800,4,5,701,702] ?_;refine ch (S:=Nat×Int×cN) (fun s=>s.1<=da.length/\0<=s.2.1/\s.2.1<=2^40/\s.2.2.is.length=p.names.length/\s.2.2.ct.length=p.names.length/\o7 (da.drop s.1) s.2.1 s.2.2=J0) (fun s=>⟨bg [(1,int s.2.1),(4,.ref 4 0 0),(5,.ref 5 0 0),(17,.d (.sl none PT)),(18,int PT.length),(19,int s.1)],aw [(25,.box 75 [.d (.sl none NN),.d (.sl none RR),.d (.v (.int .i64 st)),.d (.v (.int .i64 fO)),.own 800 0 nx.length,.d (.sl none PT),.d (.sl none IN)]),(800,.sl 36 1 nx),(4,.box 82 [.d (.sl (some false) []),.d (.sl (some false) [])]),(5,.box 82 [.own 701 0 s.2.2.is.length,.own 702 0 s.2.2.ct.length]),(701,.sl 4 1 (s.2.2.is.map fun b=>[.v (.bool b)])),(702,.sl 3 1 (s.2.2.ct.map fun n=>[.v (.int .i64 n)]))]⟩) (fun s=>da.length - s.1) (0,n,ST) ?_ ⟨ak,h0,h1,e7,fA,rE⟩ ?_
 .refine bo fw
 .rintro⟨k,m,T⟩ ⟨hk,tH,zJ,jD,jE,df⟩;dsimp only at hk tH zJ jD jE df ⊢;obtain⟨TI,TC⟩:=T;dsimp only at jD jE ⊢;refine ae fw [1,4,5,17,18,19,20] [25,800,4,5,701,702] ?_;refine ag fun K2 au=>?_;by_cases aG:k < da.length
  .have dV:k < PT.length:=aa
   have og:(k:Int) < (PT.length:Int):=aa
   refine bR (by simp<;>omega) ?_;refine aq (au _ (ag fun K3 aX=>bf ?_));have hx:=zm _ (By aG)
   have mJ:PT[k]=[.v (.int .i64 da[k].nm),.v (.int .i64 da[k].most),.v (.bool da[k].far)]:=by
    have:=DV k aG;rw[AT dV]at this;exact AI this
   rw[amu aG,o7]at df;have jk:=hx.lt;have oY:=hx.m2;have El:=hx.m8;clear hx;generalize da[k]=x at mJ df jk oY El;obtain⟨i,M,fa⟩:=x;dsimp only at mJ df jk oY El
   have uB:¬ M=0:=aa
   have kQ:m.tmod M=m % M:=anb tH;have jg:0<=m / M:=Int.ediv_nonneg tH aa;have tD:m / M<=m:=Int.ediv_le_self _ tH
   have hdiv:IntKind.i64.wrap (m.tdiv M)=m / M:=by
    rw[anm tH];exact AQ aa
   have ot:0<=m % M:=Int.emod_nonneg _ uB;have qa:m % M < M:=Int.emod_lt_of_pos _ aa;generalize hq:m / M=q at *;generalize hr:m % M=r at *
   have fV:i < TI.length:=aa
   have gx:i < TC.length:=aa
   have qf:=(Aq fw (Aq @dV @mJ));refine ax [1,4,5,7,17,18,19] [25,800,4,5,7,701,702] ?_;refine dZ fw 7 ?_;have qf:=(Aq fw (Aq @uB @kQ));refine ax [1,4,5,7,8,17,18,19] [25,800,4,5,701,702] ?_;have qf:=(Aq fw (Aq @uB @hdiv));refine ax [1,4,5,7,8,17,18,19] [25,800,4,5,701,702] ?_;refine ae fw [1,4,5,7,8,17,18,19,32] [25,800,4,5,701,702] ?_
   cases fa with
   | true=>
    simp only[sS,if_true]at df;refine aJ ?_;have qf:=(Aq fw @gx);refine ax [1,4,5,7,8,17,18,19] [25,800,4,5,701,702] ?_;have qf:=(Aq fw @fV);refine eM aX [1,4,5,17,18,19] [25,800,4,5,701,702] ?_;refine cA fw ?_;(try simp only[aT,aW]);refine aZ.mk (k+1,q,⟨TI.set i (decide (r=M - 1)),TC.set i r⟩) ⟨by dsimp only;omega,jg,by dsimp only;omega,by simp[jD],by simp[jE],df⟩ (by dsimp only;omega) ?_;refine aL.ek (dT rfl) (by simp[ab,amt]) (by simp[ab,amt])
   | false=>
    simp only[sS,amn,if_false]at df;refine al ?_;have qf:=(Aq fw @fV);refine eM aX [1,4,5,17,18,19] [25,800,4,5,701,702] ?_;refine cA fw ?_;(try simp only[aT,aW]);refine aZ.mk (k+1,q,⟨TI.set i (decide (r=1)),TC⟩) ⟨by dsimp only;omega,jg,by dsimp only;omega,by simp[jD],jE,df⟩ (by dsimp only;omega) ?_;refine aL.ek (dT rfl) (by simp[ab,amt]) (by simp[ab,amt])
  .have og:¬ (k:Int) < (PT.length:Int):=aa
   rw[amH aa,o7]at df;subst df;refine bU (by simp;omega) ?_;refine bL (aF _ (AW.imp (aL.freeze 701 bD) ?_));refine AW.st (by simp[ab,sh];rfl) ?_;refine AW.imp (aL.freeze 702 bD) ?_;refine AW.st (by simp[ab,sh];rfl) ?_;refine ae fw [4] [25,800,4] ?_;exact aY fw
theorem U3 (G:aB) (p:aM) (aV:cO p=none) (st fO:Int) (nx:List (List D)) (n:Int) (h0:0<=n) (h1:n<=2^40):aD prog G 24 [pV p st fO nx,ab n] (se (jb p n)):=by
 have hg:=gb aV;have fL:=hg.names;have dW:=Xn G p aa;have zm:∀ x∈bF p,yQ p x:=fun x hx=>nJ hg hx
 have e7:(kU p).is.length=p.names.length:=by simp[kU]
 have fA:(kU p).ct.length=p.names.length:=by simp[kU]
 have rE:o7 ((bF p).drop 0) n (kU p)=jb p n:=rfl;have nY:=Fo p p.names.length;have DO:ij p p.names.length=bF p:=rfl;rw[DO]at nY;simp only[fH,fe,ck,eZ]at dW;simp only[pV,sc,ck,eZ,oO,gd,ab,se,pS,ff];generalize abl:jb p n=J0 at *;generalize hST:kU p=ST at *;generalize Lz:bF p=da at *
 have zp:(da.map jc).length=da.length:=ak
 have DV:∀ i (h:i < da.length),(da.map jc)[i]? = some [.v (.int .i64 da[i].nm),.v (.int .i64 da[i].most),.v (.bool da[i].far)]:=fun i h=>by simp[h,jc]
 generalize da.map jc=PT at *;generalize (bl p).map (fun n=>[D.v (.int .i64 n)])=IN at *;generalize p.names.map bw=NN at *;generalize p.aC.map de=RR at *;refine aD.aO (ay _) func24 rfl rfl (rs:=[.cell 4 82]) results24 (by simp[ntmps24]) fun X=>?_;simp only[ntmps24,List.map];have fw:=@an8;refine ae fw [0,1,4] [4] ?_;refine bK fw dW [0,1,4,5] [4,5,701,702] ?_;refine ag fun K1 aF=>ae fw [1,4,5,17,18,19] [4,5,701,702] ?_;refine ch (S:=Nat×Int×cN) (fun s=>s.1<=da.length/\0<=s.2.1/\s.2.1<=2^40/\s.2.2.is.length=p.names.length/\s.2.2.ct.length=p.names.length/\o7 (da.drop s.1) s.2.1 s.2.2=J0) (fun s=>⟨bg [(1,int s.2.1),(4,.ref 4 0 0),(5,.ref 5 0 0),(17,.d (.sl none PT)),(18,int PT.length),(19,int s.1)],aw [(4,.box 82 [.d (.sl (some false) []),.d (.sl (some false) [])]),(5,.box 82 [.own 701 0 s.2.2.is.length,.own 702 0 s.2.2.ct.length]),(701,.sl 4 1 (s.2.2.is.map fun b=>[.v (.bool b)])),(702,.sl 3 1 (s.2.2.ct.map fun n=>[.v (.int .i64 n)]))]⟩) (fun s=>da.length - s.1) (0,n,ST) ?_ ⟨ak,h0,h1,e7,fA,rE⟩ ?_
 .refine bo fw
 .rintro⟨k,m,T⟩ ⟨hk,tH,zJ,jD,jE,df⟩;dsimp only at hk tH zJ jD jE df ⊢;obtain⟨TI,TC⟩:=T;dsimp only at jD jE ⊢;refine ae fw [1,4,5,17,18,19,20] [4,5,701,702] ?_;refine ag fun K2 au=>?_;by_cases aG:k < da.length
  .have dV:k < PT.length:=aa
   have og:(k:Int) < (PT.length:Int):=aa
   refine bR (by simp<;>omega) ?_;refine aq (au _ (ag fun K3 aX=>bf ?_));have hx:=zm _ (By aG)
   have mJ:PT[k]=[.v (.int .i64 da[k].nm),.v (.int .i64 da[k].most),.v (.bool da[k].far)]:=by
    have:=DV k aG;rw[AT dV]at this;exact AI this
   rw[amu aG,o7]at df;have jk:=hx.lt;have oY:=hx.m2;have El:=hx.m8;clear hx;generalize da[k]=x at mJ df jk oY El;obtain⟨i,M,fa⟩:=x;dsimp only at mJ df jk oY El
   have uB:¬ M=0:=aa
   have kQ:m.tmod M=m % M:=anb tH;have jg:0<=m / M:=Int.ediv_nonneg tH aa;have tD:m / M<=m:=Int.ediv_le_self _ tH
   have hdiv:IntKind.i64.wrap (m.tdiv M)=m / M:=by
    rw[anm tH];exact AQ aa
   have ot:0<=m % M:=Int.emod_nonneg _ uB;have qa:m % M < M:=Int.emod_lt_of_pos _ aa;generalize hq:m / M=q at *;generalize hr:m % M=r at *
   have fV:i < TI.length:=aa
   have gx:i < TC.length:=aa
   have qf:=(Aq fw (Aq @dV @mJ));refine ax [1,4,5,7,17,18,19] [4,5,7,701,702] ?_;refine dZ fw 7 ?_;have qf:=(Aq fw (Aq @uB @kQ));refine ax [1,4,5,7,8,17,18,19] [4,5,701,702] ?_;have qf:=(Aq fw (Aq @uB @hdiv));refine ax [1,4,5,7,8,17,18,19] [4,5,701,702] ?_;refine ae fw [1,4,5,7,8,17,18,19,32] [4,5,701,702] ?_
   cases fa with
   | true=>
    simp only[sS,if_true]at df;refine aJ ?_;have qf:=(Aq fw @gx);refine ax [1,4,5,7,8,17,18,19] [4,5,701,702] ?_;have qf:=(Aq fw @fV);refine eM aX [1,4,5,17,18,19] [4,5,701,702] ?_;refine cA fw ?_;(try simp only[aT,aW]);refine aZ.mk (k+1,q,⟨TI.set i (decide (r=M - 1)),TC.set i r⟩) ⟨by dsimp only;omega,jg,by dsimp only;omega,by simp[jD],by simp[jE],df⟩ (by dsimp only;omega) ?_;refine aL.ek aQ (by simp[ab,amt]) (by simp[ab,amt])
   | false=>
    simp only[sS,amn,if_false]at df;refine al ?_;have qf:=(Aq fw @fV);refine eM aX [1,4,5,17,18,19] [4,5,701,702] ?_;refine cA fw ?_;(try simp only[aT,aW]);refine aZ.mk (k+1,q,⟨TI.set i (decide (r=1)),TC⟩) ⟨by dsimp only;omega,jg,by dsimp only;omega,by simp[jD],jE,df⟩ (by dsimp only;omega) ?_;refine aL.ek aQ (by simp[ab,amt]) (by simp[ab,amt])
  .have og:¬ (k:Int) < (PT.length:Int):=aa
   rw[amH aa,o7]at df;subst df;refine bU (by simp;omega) ?_;refine bL (aF _ (AW.imp (aL.freeze 701 trivial) ?_));refine AW.st (by simp[ab,sh];rfl) ?_;refine AW.imp (aL.freeze 702 trivial) ?_;refine AW.st (by simp[ab,sh];rfl) ?_;refine ae fw [4] [4] ?_;exact aY fw
theorem aeZ (G:aB) (p:aM) (aV:cO p=none) (st fO:Int) (nx:List (List D)) (s:cN) (hs:gE p s) (hP:bT (bF p)<=4096):MC prog G [25,800] 52 [.ref 25 0 0,.d (se s)] (aw (uW p st fO nx)) (.d (ab (ie (bF p) s))) (aw (uW p st fO nx)):=by
 have hg:=gb aV;have fL:=hg.names;have zm:∀ x∈bF p,yQ p x:=fun x hx=>nJ hg hx;have LY:∀ x∈bF p,0<=uo x s/\uo x s < x.most:=fun x hx=>KM hs (zm x hx);have lV:=IU LY;have oY:∀ x∈bF p,2<=x.most:=fun x hx=>(zm x hx).m2;have D3:∀ k,0<=ie ((bF p).drop k) s:=fun k=>(IU fun x hx=>LY x (am3 hx)).1;have hdp:∀ k,0 < bT ((bF p).drop k):=fun k=>o4 fun x hx=>oY x (am3 hx);have e7:=hs.l1;have fA:=hs.l2;clear hs;have nY:=Fo p p.names.length;have DO:ij p p.names.length=bF p:=rfl;rw[DO]at nY;simp only[uW,ck,eZ,oO,gd,ab,se,pS,ff];obtain⟨TI,TC⟩:=s;dsimp only at e7 fA ⊢;generalize Lz:bF p=da at *
 have zp:(da.map jc).length=da.length:=ak
 have DV:∀ i (h:i < da.length),(da.map jc)[i]? = some [.v (.int .i64 da[i].nm),.v (.int .i64 da[i].most),.v (.bool da[i].far)]:=fun i h=>by simp[h,jc]
 generalize da.map jc=PT at *;generalize (bl p).map (fun n=>[D.v (.int .i64 n)])=IN at *;generalize p.names.map bw=NN at *;generalize p.aC.map de=RR at *;refine MC.aO (ay _) func52 rfl rfl (rs:=[.tmp 4]) results52 (by simp[ntmps52]) rfl fun X=>?_;simp only[ntmps52];have fw:=@an8;refine ae fw [0,3] [25,800,3] ?_;refine dZ fw 3 ?_;refine ae fw [0,3,5,6] [25,800] ?_;refine ag fun K1 aF=>ae fw [3,5,6,13,14,15] [25,800] ?_;refine ch (S:=Nat×Int×Int) (fun s=>s.1<=da.length/\0<=s.2.1/\0 < s.2.2/\s.2.2 * bT (da.drop s.1)=bT da/\s.2.1+s.2.2 * ie (da.drop s.1) ⟨TI,TC⟩=ie da ⟨TI,TC⟩) (fun s=>⟨bg [(3,.d (.ip [.sl none (TI.map fun b=>[.v (.bool b)]),.sl none (TC.map fun n=>[.v (.int .i64 n)])])),(5,int s.2.1),(6,int s.2.2),(13,.d (.sl none PT)),(14,int PT.length),(15,int s.1)],aw [(25,.box 75 [.d (.sl none NN),.d (.sl none RR),.d (.v (.int .i64 st)),.d (.v (.int .i64 fO)),.own 800 0 nx.length,.d (.sl none PT),.d (.sl none IN)]),(800,.sl 36 1 nx)]⟩) (fun s=>da.length - s.1) (0,0,1) ?_ ⟨ak,ak,ak,ak,ak⟩ ?_
 .refine bo fw
 .rintro⟨k,n,b⟩ ⟨hk,wo,iF,jF,df⟩;dsimp only at hk wo iF jF df ⊢;have sD:=D3 k;have qC:0<=b * ie (da.drop k) ⟨TI,TC⟩:=an5 aa sD;refine ae fw [3,5,6,13,14,15,16] [25,800] ?_;refine ag fun K2 au=>?_;by_cases aG:k < da.length
  .have dV:k < PT.length:=aa
   have og:(k:Int) < (PT.length:Int):=aa
   refine bR (by simp<;>omega) ?_;refine aq (au _ (ag fun K3 aX=>bf ?_));have hx:=zm _ (By aG);obtain⟨jg,tD⟩:=LY _ (By aG)
   have mJ:PT[k]=[.v (.int .i64 da[k].nm),.v (.int .i64 da[k].most),.v (.bool da[k].far)]:=by
    have:=DV k aG;rw[AT dV]at this;exact AI this
   have ab7:=D3 (k+1);have ak9:=hdp (k+1);rw[amu aG,ie]at df;rw[amu aG,bT,<- Int.mul_assoc]at jF;rw[Int.mul_add,<- Int.add_assoc,<- Int.mul_assoc]at df;have jk:=hx.lt;have oY:=hx.m2;clear hx qC sD;unfold uo at df jg tD;generalize da[k]=x at mJ df jF jk oY jg tD;obtain⟨i,M,fa⟩:=x;dsimp only at mJ df jF jk oY jg tD;have Ho:0 < b * M:=Int.mul_pos iF aa
   have ak5:b * M<=4096:=by
    have:=ani (show (1:Int)<=bT (da.drop (k+1)) by omega) (anK Ho);omega
   have ak6:0<=b * M * ie (da.drop (k+1)) ⟨TI,TC⟩:=an5 aa ab7
   have fV:i < TI.length:=aa
   have gx:i < TC.length:=aa
   rw[dw fV,dw gx]at df jg tD;generalize qD:TI[i]=bv at *;generalize qF:TC[i]=c at *;generalize LM:b * M=bM at *;have qf:=(Aq fw (Aq @dV @mJ));refine ax [3,5,6,8,13,14,15] [25,800,8] ?_;refine dZ fw 8 ?_;refine ae fw [3,5,6,8,9,13,14,15] [25,800] ?_;refine ag fun K4 b6=>ae fw [3,5,6,8,9,13,14,15,20] [25,800] ?_
   cases fa with
   | true=>
    simp only[if_true]at df jg tD;have l9:0<=b * c:=an5 aa jg
    have eU:b * c<=bM:=by
     have:=ani (anK tD) (anK iF);omega
    generalize abS:b * c=bc at *;refine aJ ?_;have qf:=(Aq fw (Aq @gx @qF));refine eM b6 [3,5,6,8,9,13,14,15] [25,800] ?_;have qf:=(Aq fw @abS);refine ax [3,5,6,8,13,14,15] [25,800] ?_;have qf:=(Aq fw @LM);refine eM aX [3,5,6,13,14,15] [25,800] ?_;refine cA fw ?_;(try simp only[aT,aW]);refine aZ.mk (k+1,n+bc,bM) ⟨by dsimp only;omega,by dsimp only;omega,Ho,jF,df⟩ (by dsimp only;omega) ?_;refine bo fw
   | false=>
    simp only[amn,if_false]at df jg tD;refine al ?_;have qf:=(Aq fw (Aq @fV @qD));refine ax [3,5,6,8,9,13,14,15,32] [25,800] ?_
    cases bv with
    | true=>
     simp only[if_true,Int.mul_one]at df
     have e9:b<=bM:=by
      have:=ani (show (1:Int)<=M by omega) (anK iF);omega
     refine aJ (gq fw b6 [3,5,6,8,9,13,14,15] [25,800] ?_);refine ae fw [3,5,6,8,13,14,15] [25,800] ?_;have qf:=(Aq fw @LM);refine eM aX [3,5,6,13,14,15] [25,800] ?_;refine cA fw ?_;(try simp only[aT,aW]);refine aZ.mk (k+1,n+b,bM) ⟨by dsimp only;omega,by dsimp only;omega,Ho,jF,df⟩ (by dsimp only;omega) ?_;refine bo fw
    | false=>
     simp only[amn,if_false,Int.mul_zero,Int.add_zero]at df;refine al (aq (b6 _ ?_));refine ae fw [3,5,6,8,13,14,15] [25,800] ?_;have qf:=(Aq fw @LM);refine eM aX [3,5,6,13,14,15] [25,800] ?_;refine cA fw ?_;(try simp only[aT,aW]);refine aZ.mk (k+1,n,bM) ⟨by dsimp only;omega,by dsimp only;omega,Ho,jF,df⟩ (by dsimp only;omega) ?_;refine bo fw
  .have og:¬ (k:Int) < (PT.length:Int):=aa
   rw[amH aa,ie,Int.mul_zero,Int.add_zero]at df;subst df;refine bU (by simp;omega) ?_;refine bL (aF _ (ae fw [4] [25,800] ?_));exact aY fw
theorem aeU (G:aB) (p:aM) (aV:cO p=none) (st fO:Int) (nx:List (List D)) (x:Int):MC prog G [25,800] 54 [.ref 25 0 0,.d (ab x)] (aw (uW p st fO nx)) (.d (ff (dL x (bl p).length))) (aw (uW p st fO nx)):=by
 have fL:=(gb aV).names;have zD:=xY p.names 1 p.names.length;have ny:jI p.names 1 p.names.length=bl p:=rfl;rw[ny]at zD;simp only[uW,ck,eZ,oO,gd,ab,ff]
 have nV:((bl p).map fun n=>[D.v (.int .i64 n)]).length=(bl p).length:=ak
 generalize (bl p).length=m at *;generalize (bl p).map (fun n=>[D.v (.int .i64 n)])=IN at *;generalize (bF p).map jc=PT at *;generalize p.names.map bw=NN at *;generalize p.aC.map de=RR at *;refine MC.aO (ay _) func54 rfl rfl (rs:=[.tmp 4]) results54 (by simp[ntmps54]) rfl fun X=>?_;simp only[ntmps54];have fw:=@an8;refine ae fw [0,1] [25,800] ?_;refine ae fw [0,1,5] [25,800] ?_;refine ag fun K1 aF=>ae fw [1,5,11,12] [25,800] ?_;refine ch (S:=Nat) (fun k=>k<=m) (fun k=>⟨bg [(1,int x),(5,.own 901 0 k),(11,int m),(12,int k)],aw [(25,.box 75 [.d (.sl none NN),.d (.sl none RR),.d (.v (.int .i64 st)),.d (.v (.int .i64 fO)),.own 800 0 nx.length,.d (.sl none PT),.d (.sl none IN)]),(800,.sl 36 1 nx),(901,.sl 4 1 ((dL x k).map fun b=>[.v (.bool b)]))]⟩) (fun k=>m - k) 0 ?_ aa ?_
 .refine (aL.lO 5 901 4 1 rfl rfl).trans ?_;refine bo (Aq fw (Aq @dL.eq_1 (Aq @dL.eq_2 @nV)))
 .intro k zG
  have lz:((dL x k).map fun b=>[D.v (.bool b)]).length=k:=by simp[wE]
  have nU:dL x (k+1)=dL x k ++ [Aa x k]:=rfl;have Ea:(pQ .and .i64 (x.fdiv (2 ^ (min k IntKind.i64.bits))) 1 == 1)=Aa x k:=rfl;generalize iX:dL x k=B at lz nU ⊢;refine ae fw [1,5,11,12,13] [25,800,901] ?_;refine ag fun K2 au=>eY (b:=k < m) (by simp[D.le,D.le.go,aP,ab]) (fun hc=>?_) (fun hc=>?_)
  .refine aq (au _ (ag fun K3 aX=>bf (ae fw [1,5,6,11,12] [25,800,901] ?_)));refine fD (ay _) fun K' ao=>?_;(repeat refine aK fun Kq af=>?_;simp[ab,lz,sh,r4,Ea];(repeat refine⟨aa,?_⟩);refine af _ ?_);refine bH (ao _ ?_);refine aX _ (AW.norm [1,5,11,12] [25,800,901] (dT rfl) (AW.st (by simp[ab,lz,sh,r4,Ea];rfl) ?_));refine cA fw ?_;(try simp only[aT,aW]);refine aZ.mk (k+1) aa aa ?_;rw[nU];refine bo fw
  .obtain rfl:k=m:=aa
   refine bL (aF _ ?_);rw[iX];refine AW.imp (aL.freeze 901 bD) ?_;refine AW.st (by simp[ab,lz,sh];rfl) ?_;refine ae fw [4] [25,800] ?_;exact aY fw
theorem aeV (G:aB) (p:aM) (aV:cO p=none) (st fO:Int) (nx:List (List D)) (x:Int):aD prog G 54 [pV p st fO nx,ab x] (ff (dL x (bl p).length)):=by
 have fL:=(gb aV).names;have zD:=xY p.names 1 p.names.length;have ny:jI p.names 1 p.names.length=bl p:=rfl;rw[ny]at zD;simp only[pV,sc,ck,eZ,oO,gd,ab,ff]
 have nV:((bl p).map fun n=>[D.v (.int .i64 n)]).length=(bl p).length:=ak
 generalize (bl p).length=m at *;generalize (bl p).map (fun n=>[D.v (.int .i64 n)])=IN at *;generalize (bF p).map jc=PT at *;generalize p.names.map bw=NN at *;generalize p.aC.map de=RR at *;refine aD.aO (ay _) func54 rfl rfl (rs:=[.tmp 4]) results54 (by simp[ntmps54]) fun X=>?_;simp only[ntmps54,List.map];have fw:=@an8;refine ae fw [0,1] [] ?_;refine ae fw [0,1,5] [] ?_;refine ag fun K1 aF=>ae fw [1,5,11,12] [] ?_;refine ch (S:=Nat) (fun k=>k<=m) (fun k=>⟨bg [(1,int x),(5,.own 901 0 k),(11,int m),(12,int k)],aw [(901,.sl 4 1 ((dL x k).map fun b=>[.v (.bool b)]))]⟩) (fun k=>m - k) 0 ?_ aa ?_
 .refine (aL.lO 5 901 4 1 rfl rfl).trans ?_;refine bo (Aq fw (Aq @dL.eq_1 (Aq @dL.eq_2 @nV)))
 .intro k zG
  have lz:((dL x k).map fun b=>[D.v (.bool b)]).length=k:=by simp[wE]
  have nU:dL x (k+1)=dL x k ++ [Aa x k]:=rfl;have Ea:(pQ .and .i64 (x.fdiv (2 ^ (min k IntKind.i64.bits))) 1 == 1)=Aa x k:=rfl;generalize iX:dL x k=B at lz nU ⊢;refine ae fw [1,5,11,12,13] [901] ?_;refine ag fun K2 au=>eY (b:=k < m) (by simp[D.le,D.le.go,aP,ab]) (fun hc=>?_) (fun hc=>?_)
  .refine aq (au _ (ag fun K3 aX=>bf (ae fw [1,5,6,11,12] [901] ?_)));refine fD (ay _) fun K' ao=>?_;(repeat refine aK fun Kq af=>?_;simp[ab,lz,sh,r4,Ea];(repeat refine⟨aa,?_⟩);refine af _ ?_);refine bH (ao _ ?_);refine aX _ (AW.norm [1,5,11,12] [901] aQ (AW.st (by simp[ab,lz,sh,r4,Ea];rfl) ?_));refine cA fw ?_;(try simp only[aT,aW]);refine aZ.mk (k+1) aa aa ?_;rw[nU];refine bo fw
  .obtain rfl:k=m:=aa
   refine bL (aF _ ?_);rw[iX];refine AW.imp (aL.freeze 901 trivial) ?_;refine AW.st (by simp[ab,lz,sh];rfl) ?_;refine ae fw [4] [] ?_;exact aY fw
theorem aiH {p:aM} {k:Nat} (h:k < p.names.length):(fC p).take (k+1)=(fC p).take k ++ [dB p p.names[k]]:=by
 have h':k < (fC p).length:=by simpa[fC]using h
 rw[aml h'];simp[fC]
theorem Fz (G:aB) (hM:ky G) (p:aM) (aV:cO p=none) (hk:∀ r∈p.aC,mZ r):aD prog G 47 [eB p] (gd (fC p)):=by
 have hg:=gb aV;have fL:=hg.names
 have px:=akw G hM p aa (fun n hn e=>by
  have:=(hg.name n hn).1;rw[e]at this
  exact absurd this bD) (by have:=hg.aC;omega) (fun r hr=>by
  obtain⟨e,he,_,_,hb⟩:=hk r hr
  exact⟨e,he,aa⟩)
 have jH:=JO p p.names.length;have B9:=fun k (h:k < p.names.length)=>(AO (p:=p) (x:=(k:Int)) (amh _))
 have hem:∀ k (h:k < p.names.length),((k:Int)∈gT p p.names.length)↔kJ p p.names[k]=true:=fun k h=>by
  rw[B9 k h];constructor
  .rintro⟨i,hi,_,he,ha⟩
   obtain rfl:k=i:=aa
   exact ha
  .intro ha;exact⟨k,h,h,rfl,ha⟩
 have tL:=fun k (h:k < p.names.length)=>aiH h
 have eC:(fC p).length=p.names.length:=by simp[fC]
 have mL:=hg.count;have ld:=hg.name;generalize fC p=RP at *;generalize gT p p.names.length=E at *;clear B9;simp only[eB,fF,ck,gd]at px ⊢
 have oT:(p.names.map bw).length=p.names.length:=ak
 have j6:∀ i (h:i < p.names.length),(p.names.map bw)[i]? = some [.v (.string (bs p.names[i].name)),.v (.int .i64 p.names[i].kind),.v (.int .i64 p.names[i].count)]:=fun i h=>by simp[h,bw,dS]
 generalize p.names.map bw=NN at *;generalize p.aC.map ez=RR at *;refine aD.aO (ay _) func47 rfl rfl (rs:=[.tmp 2]) results47 (by simp[ntmps47]) fun X=>?_;simp only[ntmps47,List.map];refine ar [1] [1] ?_;refine gu 1 ?_;refine bh trivial px [1,3] [] ?_;refine ar [1,3,4] [] ?_;refine ag fun K1 aF=>ar [3,4,13,14,15] [] ?_;refine ch (S:=Nat) (fun k=>k<=p.names.length) (fun k=>⟨bg [(3,.d (.sl none (E.map fun x=>[.v (.int .i64 x)]))),(4,.own 905 0 k),(13,.d (.sl none NN)),(14,int NN.length),(15,int k)],aw [(905,.sl 3 1 ((RP.take k).map fun x=>[.v (.int .i64 x)]))]⟩) (fun k=>p.names.length - k) 0 ?_ aa ?_
 .refine (aL.lO 4 905 3 1 rfl rfl).trans ?_;refine cg
 .intro k mM;have TA:=tL k
  have nY:((RP.take k).map fun x=>[D.v (.int .i64 x)]).length=k:=by simp;omega
  generalize hPT:RP.take k=PT at TA nY ⊢;refine ar [3,4,13,14,15,16] [905] ?_;refine ag fun K2 au=>?_;by_cases aG:k < p.names.length
  .have dV:k < NN.length:=aa
   have og:(k:Int) < (NN.length:Int):=aa
   refine bR (by simp<;>omega) ?_;refine aq (au _ (ag fun K3 aX=>bf ?_));have HV:=TA aG;have acd:=hem k aG;have jC:=mL _ (By aG);have gH:=ld _ (By aG)
   have nX:NN[k]=[.v (.string (bs p.names[k].name)),.v (.int .i64 p.names[k].kind),.v (.int .i64 p.names[k].count)]:=by
    have:=j6 k aG;rw[AT dV]at this;exact AI this
   unfold dB at HV;generalize kJ p p.names[k]=ev at *;generalize To:p.names[k]=nk at HV nX jC gH;obtain⟨nm,kd,ct⟩:=nk;dsimp only at HV nX jC gH;have qf:=(Aq @dV @nX);refine ax [3,4,5,6,13,14,15] [905,6] ?_;refine gu 6 ?_;refine ar [3,4,5,6,7,13,14,15] [905] ?_;refine ag fun K4 b6=>bf ?_;obtain⟨v0,iZ⟩:∃ v0:Int,v0=if 3<=kd then ct+1 else if kd=2 then 2 else 0:=⟨_,rfl⟩
   have tl:∀ τ,St.norm [3,4,5,6,7,13,14,15] [905] τ=⟨bg [(3,.d (.sl none (E.map fun x=>[.v (.int .i64 x)]))),(4,.own 905 0 k),(5,int k),(6,.d (.ip [.v (.string (bs nm)),.v (.int .i64 kd),.v (.int .i64 ct)])),(7,int v0),(13,.d (.sl none NN)),(14,int NN.length),(15,int k)],aw [(905,.sl 3 1 (PT.map fun x=>[.v (.int .i64 x)]))]⟩->K4 τ:=by
    intro τ e;refine b6 τ (AW.norm [3,4,5,6,7,13,14,15] [905] aQ (AW.st e ?_));clear e;refine ag fun K5 b5=>ar [3,4,5,6,7,13,14,15,31,32,33] [905] ?_;refine ch (S:=Nat) (fun j=>j<=E.length) (fun j=>⟨bg [(3,.d (.sl none (E.map fun x=>[.v (.int .i64 x)]))),(4,.own 905 0 k),(5,int k),(6,.d (.ip [.v (.string (bs nm)),.v (.int .i64 kd),.v (.int .i64 ct)])),(7,int (if kd=1/\(k:Int)∈E.take j then 2 else v0)),(13,.d (.sl none NN)),(14,int NN.length),(15,int k),(31,.d (.sl none (E.map fun x=>[.v (.int .i64 x)]))),(32,int E.length),(33,int j)],aw [(905,.sl 3 1 (PT.map fun x=>[.v (.int .i64 x)]))]⟩) (fun j=>E.length - j) 0 ?_ aa ?_
    .refine cg
    .intro j hj;generalize EI:(if kd=1/\(k:Int)∈E.take j then 2 else v0)=vj;refine ar [3,4,5,6,7,13,14,15,31,32,33,34] [905] ?_;refine ag fun K6 dy=>eY (b:=j < E.length) (by simp[D.le,D.le.go,aP]) (fun hc=>?_) (fun hc=>?_)
     .refine aq (dy _ (ag fun K7 eH=>bf ?_));have dA:E.take (j+1)=E.take j ++ [E[j]]:=aml hc;have qf:=@hc;refine ax [3,4,5,6,7,9,13,14,15,31,32,33] [905] ?_
      have oZ:(k:Int)∈E.take (j+1)↔(k:Int)∈E.take j\/(k:Int)=E[j]:=by rw[dA,amq,amD]
      by_cases lF:(k:Int)=E[j]
      .have Td:=eq_true lF;by_cases k1:kd=1
       .have k11:=eq_true k1;have qf:=(Aq @Td @k11);refine ax [3,4,5,6,7,13,14,15,31,32,33,44] [905] ?_;refine aJ (gq trivial eH [3,4,5,6,7,13,14,15,31,32,33] [905] ?_);refine cK ?_;(try simp only[aT,aW]);refine aZ.mk (j+1) aa aa ?_;rw[if_pos ⟨k1,oZ.2 (.inr lF)⟩];refine cg
       .have qf:=(Aq @Td @k1);refine ax [3,4,5,6,7,13,14,15,31,32,33,44] [905] ?_;refine bU (by simp[k1]) (aq (eH _ ?_));refine cK ?_;(try simp only[aT,aW]);refine aZ.mk (j+1) aa aa ?_;rw[if_neg (fun h=>k1 h.1)]at EI;rw[if_neg (fun h=>k1 h.1),EI];refine cg
      .have qf:=@lF;refine ax [3,4,5,6,7,13,14,15,31,32,33,44] [905] ?_;refine bU (by simp[lF]) (aq (eH _ ?_));refine cK ?_;(try simp only[aT,aW]);refine aZ.mk (j+1) aa aa ?_;have uL:(kd=1/\(k:Int)∈E.take (j+1))=(kd=1/\(k:Int)∈E.take j):=propext (and_congr_right fun _=>oZ.trans (or_iff_left lF));simp only[uL,EI];refine cg
     .obtain rfl:j=E.length:=aa
      rw[sh (amh _)]at EI;refine bL (b5 _ (fD (ay _) fun K' ao=>?_));(repeat refine aK fun Kq af=>?_;simp[nY,sh];(repeat refine⟨aa,?_⟩);refine af _ ?_);refine bH (ao _ ?_);refine aX _ (AW.norm [3,4,13,14,15] [905] aQ (AW.st (by simp[nY,sh];rfl) ?_));refine cK ?_;(try simp only[aT,aW]);refine aZ.mk (k+1) aa aa ?_
      have rE:vj=if 3<=kd then ct+1 else if kd=2 then 2 else if kd=1/\ev=true then 2 else 0:=by
       rw[<- EI,iZ];by_cases k3:3<=kd
       .rw[if_neg aa,if_pos k3,if_pos k3]
       .by_cases k2:kd=2
        .rw[if_neg aa,if_neg k3,if_pos k2,if_neg k3,if_pos k2]
        .rw[if_neg k3,if_neg k2,if_neg k3,if_neg k2];simp only[acd]
      rw[HV,<- rE];refine cg
   by_cases k3:3<=kd
   .rw[if_pos k3]at iZ;subst iZ;have jP:kd >= 3:=k3;have qf:=@jP;refine ax [3,4,5,6,7,13,14,15,20] [905] ?_;refine bR (by simp<;>omega) ?_;refine fD (ay _) fun K' ao=>?_;(repeat refine aK fun Kq af=>?_;simp;(repeat refine⟨aa,?_⟩);refine af _ ?_);refine bH (ao _ ?_);exact tl _ ak
   .have jP:¬ kd >= 3:=k3;rw[if_neg k3]at iZ;have qf:=@jP;refine ax [3,4,5,6,7,13,14,15,20] [905] ?_;refine bU (by simp<;>omega) ?_;by_cases k2:kd=2
    .rw[if_pos k2]at iZ;subst iZ;have k22:=eq_true k2;have qf:=@k22;refine ax [3,4,5,6,7,13,14,15,27] [905] ?_;refine bR (by simp[k2]) (fD (ay _) fun K' ao=>?_);(repeat refine aK fun Kq af=>?_;simp;(repeat refine⟨aa,?_⟩);refine af _ ?_);refine bH (ao _ ?_);exact tl _ ak
    .rw[if_neg k2]at iZ;subst iZ;have qf:=@k2;refine ax [3,4,5,6,7,13,14,15,27] [905] ?_;refine bU (by simp[k2]) (aq (tl _ ak))
  .have og:¬ (k:Int) < (NN.length:Int):=aa
   obtain rfl:k=p.names.length:=aa
   have LA:PT=RP:=by rw[<- hPT];exact sh aa
   subst LA;refine bU (by simp<;>omega) ?_;refine bL (aF _ (AW.imp (aL.freeze 905 trivial) ?_));refine AW.st (by simp[nY,sh];rfl) ?_;refine ar [2] [] ?_;exact fP
