/- Parts. -/
import Derived.Test.YtoohljflflnbeaaGreatDoorBo5
import Derived.Laws.CopyRow
set_option linter.unusedSectionVars false
set_option linter.unusedSimpArgs false
set_option linter.unusedVariables false
namespace Go.Av
def CO (H:Heap):AV->Option (List (List D))
 | .own q off n=>mH H (q+1) (.own q off n)
 | v=>mH H 0 v
def pS (els news:List (List D)) (off n:Nat):List (List D):=els.take off ++ news.take n ++ els.drop (off+(news.take n).length)
section
variable {P:Program} {T:Ty} {Mv X:Nat->Prop} {G:aC} {N:Fr} {w:World} {μ:Mu} {a:Act} {σ:St}
theorem RB (hs:eF w X μ σ.H) {sz:Nat} {u:Value} {x:AV} {els:List (List D)} (hx:RV w X μ u x) (h:CO σ.H x=some els) (hl:∀ el∈els,el.length=sz) (hz:0 < sz) (h1:∀ el∈els,∀ c∈el,D.one c=true):sT w X μ sz u els:=by
 unfold CO at h;split at h
 .exact Fa hs hx h hl hz h1
 .exact Fa hs hx h hl hz h1
theorem VW (hg:Good P T) (hi:In w X G μ N a σ) {r off n:Nat} {t t' ty e:TypeId} {tt te:TI} (cL:T t=some tt) (ew:tt.desc = .slice e) (dh:T e=some te) (IG:te.size=1) {els news:List (List D)} {u v:Value}
  (hH:σ.H r=some (.sl e 1 els)) (hle:off+n<=els.length) (vb:0 < els.length) (hu:RV w X μ u (.own r off n)) (hn:sT w X μ 1 v news) :
  oo Mv X G N w μ a ((Builtin.copy_ #[t,t'] ty #[u,v]).run P w) (.d (.v (.int .i64 ((news.take n).length:Nat)))) ⟨σ.env,aX σ.H r (.sl e 1 (pS els news off n))⟩:=by
 obtain⟨m,hm,hh⟩:=hu.ma;obtain⟨m',cH,ok⟩:=hi.bu.rows r _ hH;rw[hm]at cH;obtain rfl:=AI cH;have ht:=(hg t tt cL).1;rw[ew]at ht;obtain⟨xn,i0,my,gv,iD,nW,_⟩:=hg e te dh
 have bg:(P.info? e).map (·.size)=some 1:=by rw[my];simp[gv,IG]
 cases ok with
 | nil bk _=>simp at vb
 | sl hb vc r9 cX po gZ hl hz hr=>
  rename_i b cur
  rcases hh with⟨bk,_⟩ | ⟨b',bk,rfl,lH⟩
  .rw[hb]at bk;cases bk
  rw[hb]at bk;obtain rfl:=AI bk;rw[vc];rw[ahK]at cX ⊢;by_cases h0:(news.take n)=[]
  .-- nothing goes over
   have hv:∃ ad c,v = .slice ad news.length c:=by
    rcases hn.at_ with⟨rfl,ad,c,rfl⟩ | ⟨ad,c,kX,rfl,_⟩
    .exact⟨_,_,rfl⟩
    .exact⟨_,_,rfl⟩
   obtain⟨ad,c,rfl⟩:=hv
   have Ie:Nat.min news.length n=0:=by
    have:=congrArg List.length h0;rw[agM,ahZ]at this;rw[Nat.min_comm]at this;exact this
   have dV:(Builtin.copy_ #[t,t'] ty #[.slice (some ⟨b,off,none⟩) n (m.cap - off),.slice ad news.length c]).run P w = .ok (goInt 0) w:=by
    have hl:∀ (x:Addr),(loadCells x 0).run P w = .ok #[] w:=fun x=>by simpa using run_loadCells_list (P:=P) w x [] ak
    cases ad<;>simp[Builtin.copy_,run_underlying ht,Builtin.lenOf,Builtin.firstCells,sizeOf,typeInfo,my,Ie,storeCells,hl]
   have he:aX σ.H r (.sl e 1 (pS els news off n))=σ.H:=by
    funext q;by_cases hq:q=r
    .subst hq;simp[aX,hH,pS,h0]
    .simp[aX,hq]
   refine⟨_,w,μ,dV,?_,?_,Ev.refl ..⟩
   .rw[he];exact hi
   .rw[h0];exact .d (.v _)
  .rcases hn.at_ with⟨rfl,_⟩ | ⟨ad,cap,kX,rfl,fN,BF,BE,rB⟩
   .simp at h0
   rw[ahK]at fN
   have cN:(kX.take n).length=(news.take n).length:=by simp[fN]
   have hlen:(news.take n).length<=n:=by simp;omega
   have lK:off+(kX.take n).length<=cur.size:=aa
   have dV:=run_copy_row P w t t' ty e b off n (m.cap - off) ad news.length cap cur e (kX.take n) ht bg r9 (by rw[cN,agM,Nat.min_comm])
    (fun j v hv=>by
     rw[agP]at hv;split at hv
     .exact BF j v hv
     .cases hv) lK (fun v hv=>BE v (agJ hv))
   rw[dV]
   obtain⟨aS,bp⟩:=hi.write (Mv:=Mv) (w':=w.setRow b (cur.toList.take off ++ kX.take n ++ cur.toList.drop (off+(kX.take n).length)).toArray) hm hb ak rfl rfl rfl (fun k hk=>setRow_other w b k _ hk)
    (row:=.sl e 1 (pS els news off n)) fun ev=>by
     have Yp:cur.toList.length=cur.size:=ak
     have Yk:(pS els news off n).length=els.length:=by unfold pS;simp only[agU,agM,agX];omega
     refine .sl hb vc (setRow_heap w b cur _ e _ r9) ?_ (by rw[Yk];exact po) gZ ?_ hz ?_
     .simp only[ahX,agU,agM,agX,ahk]at cN hlen lK ⊢;omega
     .intro el bz;unfold pS at bz
      rcases agN.1 bz with h | h
      .rcases agN.1 h with h | h
       .exact hl el (agJ h)
       .exact hn.len el (agJ h)
      .exact hl el (ahf h)
     .intro i k el c e9 hk
      have afv:el.length=1:=by
       have bz:=ahr e9;unfold pS at bz
       rcases agN.1 bz with h | h
       .rcases agN.1 h with h | h
        .exact hl el (agJ h)
        .exact hn.len el (agJ h)
       .exact hl el (ahf h)
      have fM:k=0:=by have:=(BY.1 hk).1;omega
      subst fM;rw[ahK,ahB,<- agH];simp only;rw[zX _ _ _ _ (by rw[Yp];exact lK)];unfold pS at e9;rw[zX _ _ _ _ aa]at e9;split at e9
      .rename_i aS;rw[if_pos (by rw[cN];exact aS)];rw[agP]at e9;split at e9
       .rename_i aG;obtain⟨v,hv,cf⟩:=rB _ _ el c e9 hk;rw[ahK,ahB]at hv;exact⟨v,by rw[agP,if_pos aG];exact hv,cf.ev ev⟩
       .cases e9
      .rename_i sd;rw[if_neg (by rw[cN];exact sd)];obtain⟨v,hv,cf⟩:=hr i 0 el c e9 hk;rw[ahK,ahB]at hv;exact⟨v,by rw[agH];exact hv,cf.ev ev⟩
   refine⟨_,_,_,rfl,aS,?_,bp⟩;rw[cN];exact .d (.v _)
theorem VX (hg:Good P T) (hi:In w X G μ N a σ) {t t' ty e:TypeId} {tt te:TI} (cL:T t=some tt) (ew:tt.desc = .slice e) (dh:T e=some te) {k:Option Bool} {news:List (List D)} {u v:Value}
  (hu:RV w X μ u (.d (.sl k []))) (hn:sT w X μ te.size v news) :
  oo Mv X G N w μ a ((Builtin.copy_ #[t,t'] ty #[u,v]).run P w) (.d (.v (.int .i64 0))) σ:=by
 have ht:=(hg t tt cL).1;rw[ew]at ht;obtain⟨xn,i0,my,gv,iD,nW,_⟩:=hg e te dh
 have IQ:∃ ad c,u = .slice ad 0 c:=by
  rcases hu.data.qT with⟨rfl,_⟩ | ⟨ad,cap,rfl,_⟩
  .exact⟨_,_,rfl⟩
  .exact⟨_,_,rfl⟩
 have hv:∃ ad m c,v = .slice ad m c:=by
  rcases hn.at_ with⟨_,ad,c,rfl⟩ | ⟨ad,c,kX,rfl,_⟩
  .exact⟨_,_,_,rfl⟩
  .exact⟨_,_,_,rfl⟩
 obtain⟨Lr,c1,rfl⟩:=IQ;obtain⟨ad,m,c,rfl⟩:=hv
 have dV:(Builtin.copy_ #[t,t'] ty #[.slice Lr 0 c1,.slice ad m c]).run P w = .ok (goInt 0) w:=by
  have hl:∀ (x:Addr),(loadCells x 0).run P w = .ok #[] w:=fun x=>by simpa using run_loadCells_list (P:=P) w x [] ak
  have Ie:Nat.min m 0=0:=Nat.min_zero m;cases ad<;>cases Lr<;>simp[Builtin.copy_,run_underlying ht,Builtin.lenOf,Builtin.firstCells,sizeOf,typeInfo,my,Ie,storeCells,hl]
 exact⟨_,w,μ,dV,hi,.d (.v _),Ev.refl ..⟩
end
