/- Parts. -/
import Derived.Test.YtoohljflflnbeaaGreatDoorFr5
import Derived.Laws.CopyRow
set_option linter.unusedSectionVars false
set_option linter.unusedSimpArgs false
set_option linter.unusedVariables false
namespace Go.Av
def D7 (H:Heap):AV->Option (List (List D))
 | .own q off n=>my H (q+1) (.own q off n)
 | v=>my H 0 v
def nu (els news:List (List D)) (off n:Nat):List (List D):=els.take off ++ news.take n ++ els.drop (off+(news.take n).length)
section
variable {P:Program} {T:Ty} {Mv X:Nat->Prop} {G:ay} {N:Fr} {w:World} {μ:Mu} {a:Act} {σ:St}
theorem Uu (hs:eA w X μ σ.H) {sz:Nat} {u:Value} {x:AV} {els:List (List D)} (hx:RV w X μ u x) (h:D7 σ.H x=some els) (hl:∀ el∈els,el.length=sz) (hz:0 < sz) (h1:∀ el∈els,∀ c∈el,D.one c=true):sM w X μ sz u els:=by
 unfold D7 at h;split at h
 .exact DG hs hx h hl hz h1
 .exact DG hs hx h hl hz h1
theorem Xi (hg:Good P T) (hi:In w X G μ N a σ) {r off n:Nat} {t t' ty e:TypeId} {tt te:TI} (du:T t=some tt) (dG:tt.desc = .slice e) (cQ:T e=some te) (KX:te.size=1) {els news:List (List D)} {u v:Value}
  (hH:σ.H r=some (.sl e 1 els)) (hle:off+n<=els.length) (o3:0 < els.length) (hu:RV w X μ u (.own r off n)) (hn:sM w X μ 1 v news) :
  nQ Mv X G N w μ a ((Builtin.copy_ #[t,t'] ty #[u,v]).run P w) (.d (.v (.int .i64 ((news.take n).length:Nat)))) ⟨σ.env,aY σ.H r (.sl e 1 (nu els news off n))⟩:=by
 obtain⟨m,hm,hh⟩:=hu.lF;obtain⟨m',cF,ok⟩:=hi.bq.rows r _ hH;rw[hm]at cF;obtain rfl:=AI cF;have ht:=(hg t tt du).1;rw[dG]at ht;obtain⟨wE,i0,lz,eH,ke,lY,_⟩:=hg e te cQ
 have bd:(P.info? e).map (·.size)=some 1:=by rw[lz];simp[eH,KX]
 cases ok with
 | nil bk _=>simp at o3
 | sl hb wD oW cO lS gK hl hz hr=>
  rename_i b cur
  rcases hh with⟨bk,_⟩ | ⟨b',bk,rfl,kC⟩
  .rw[hb]at bk;cases bk
  rw[hb]at bk;obtain rfl:=AI bk;rw[wD];rw[akV]at cO ⊢;by_cases h0:(news.take n)=[]
  .-- nothing goes over
   have hv:∃ ad c,v = .slice ad news.length c:=by
    rcases hn.at_ with⟨rfl,ad,c,rfl⟩ | ⟨ad,c,gP,rfl,_⟩
    .exact⟨_,_,rfl⟩
    .exact⟨_,_,rfl⟩
   obtain⟨ad,c,rfl⟩:=hv
   have Ky:Nat.min news.length n=0:=by
    have:=congrArg List.length h0;rw[ajW,akA]at this;rw[Nat.min_comm]at this;exact this
   have dw:(Builtin.copy_ #[t,t'] ty #[.slice (some ⟨b,off,none⟩) n (m.cap - off),.slice ad news.length c]).run P w = .ok (goInt 0) w:=by
    have hl:∀ (x:Addr),(loadCells x 0).run P w = .ok #[] w:=fun x=>by simpa using run_loadCells_list (P:=P) w x [] ak
    cases ad<;>simp[Builtin.copy_,run_underlying ht,Builtin.lenOf,Builtin.firstCells,sizeOf,typeInfo,lz,Ky,storeCells,hl]
   have he:aY σ.H r (.sl e 1 (nu els news off n))=σ.H:=by
    funext q;by_cases hq:q=r
    .subst hq;simp[aY,hH,nu,h0]
    .simp[aY,hq]
   refine⟨_,w,μ,dw,?_,?_,Ev.refl ..⟩
   .rw[he];exact hi
   .rw[h0];exact .d (.v _)
  .rcases hn.at_ with⟨rfl,_⟩ | ⟨ad,cap,gP,rfl,fD,wz,yg,pS⟩
   .simp at h0
   rw[akV]at fD
   have cA:(gP.take n).length=(news.take n).length:=by simp[fD]
   have hlen:(news.take n).length<=n:=by simp;omega
   have kD:off+(gP.take n).length<=cur.size:=aa
   have dw:=run_copy_row P w t t' ty e b off n (m.cap - off) ad news.length cap cur e (gP.take n) ht bd oW (by rw[cA,ajW,Nat.min_comm])
    (fun j v hv=>by
     rw[ajU]at hv;split at hv
     .exact wz j v hv
     .cases hv) kD (fun v hv=>yg v (ajS hv))
   rw[dw]
   obtain⟨aO,aW⟩:=hi.write (Mv:=Mv) (w':=w.setRow b (cur.toList.take off ++ gP.take n ++ cur.toList.drop (off+(gP.take n).length)).toArray) hm hb ak rfl rfl rfl (fun k hk=>setRow_other w b k _ hk)
    (row:=.sl e 1 (nu els news off n)) fun ev=>by
     have ZV:cur.toList.length=cur.size:=ak
     have ZR:(nu els news off n).length=els.length:=by unfold nu;simp only[ajQ,ajW,aj5];omega
     refine .sl hb wD (setRow_heap w b cur _ e _ oW) ?_ (by rw[ZR];exact lS) gK ?_ hz ?_
     .simp only[akO,ajQ,ajW,aj5,aj8]at cA hlen kD ⊢;omega
     .intro el ba;unfold nu at ba
      rcases ajR.1 ba with h | h
      .rcases ajR.1 h with h | h
       .exact hl el (ajS h)
       .exact hn.len el (ajS h)
      .exact hl el (aks h)
     .intro i k el c fc hk
      have aiF:el.length=1:=by
       have ba:=akn fc;unfold nu at ba
       rcases ajR.1 ba with h | h
       .rcases ajR.1 h with h | h
        .exact hl el (ajS h)
        .exact hn.len el (ajS h)
       .exact hl el (aks h)
      have iO:k=0:=by have:=(BY.1 hk).1;omega
      subst iO;rw[akV,akD,<- ajT];simp only;rw[Bq _ _ _ _ (by rw[ZV];exact kD)];unfold nu at fc;rw[Bq _ _ _ _ aa]at fc;split at fc
      .rename_i aO;rw[if_pos (by rw[cA];exact aO)];rw[ajU]at fc;split at fc
       .rename_i aH;obtain⟨v,hv,bY⟩:=pS _ _ el c fc hk;rw[akV,akD]at hv;exact⟨v,by rw[ajU,if_pos aH];exact hv,bY.ev ev⟩
       .cases fc
      .rename_i td;rw[if_neg (by rw[cA];exact td)];obtain⟨v,hv,bY⟩:=hr i 0 el c fc hk;rw[akV,akD]at hv;exact⟨v,by rw[ajT];exact hv,bY.ev ev⟩
   refine⟨_,_,_,rfl,aO,?_,aW⟩;rw[cA];exact .d (.v _)
theorem Xj (hg:Good P T) (hi:In w X G μ N a σ) {t t' ty e:TypeId} {tt te:TI} (du:T t=some tt) (dG:tt.desc = .slice e) (cQ:T e=some te) {k:Option Bool} {news:List (List D)} {u v:Value}
  (hu:RV w X μ u (.d (.sl k []))) (hn:sM w X μ te.size v news) :
  nQ Mv X G N w μ a ((Builtin.copy_ #[t,t'] ty #[u,v]).run P w) (.d (.v (.int .i64 0))) σ:=by
 have ht:=(hg t tt du).1;rw[dG]at ht;obtain⟨wE,i0,lz,eH,ke,lY,_⟩:=hg e te cQ
 have Lf:∃ ad c,u = .slice ad 0 c:=by
  rcases hu.data.rY with⟨rfl,_⟩ | ⟨ad,cap,rfl,_⟩
  .exact⟨_,_,rfl⟩
  .exact⟨_,_,rfl⟩
 have hv:∃ ad m c,v = .slice ad m c:=by
  rcases hn.at_ with⟨_,ad,c,rfl⟩ | ⟨ad,c,gP,rfl,_⟩
  .exact⟨_,_,_,rfl⟩
  .exact⟨_,_,_,rfl⟩
 obtain⟨NU,c1,rfl⟩:=Lf;obtain⟨ad,m,c,rfl⟩:=hv
 have dw:(Builtin.copy_ #[t,t'] ty #[.slice NU 0 c1,.slice ad m c]).run P w = .ok (goInt 0) w:=by
  have hl:∀ (x:Addr),(loadCells x 0).run P w = .ok #[] w:=fun x=>by simpa using run_loadCells_list (P:=P) w x [] ak
  have Ky:Nat.min m 0=0:=Nat.min_zero m;cases ad<;>cases NU<;>simp[Builtin.copy_,run_underlying ht,Builtin.lenOf,Builtin.firstCells,sizeOf,typeInfo,lz,Ky,storeCells,hl]
 exact⟨_,w,μ,dw,hi,.d (.v _),Ev.refl ..⟩
end
