/- Parts. -/
import Derived.Test.YtobejfcgcfdpfaaGreatDoorPc5
import Derived.Laws.CopyRow
set_option linter.unusedSectionVars false
set_option linter.unusedSimpArgs false
set_option linter.unusedVariables false
namespace Go.Av
def FH (H:Heap):AV->Option (List (List D))
 | .own q off n=>nI H (q+1) (.own q off n)
 | v=>nI H 0 v
def oN (els news:List (List D)) (off n:Nat):List (List D):=els.take off ++ news.take n ++ els.drop (off+(news.take n).length)
section
variable {P:Program} {T:Ty} {Mv X:Nat->Prop} {G:aB} {N:Fr} {w:World} {μ:Mu} {a:Act} {σ:St}
theorem Xi (hs:eT w X μ σ.H) {sz:Nat} {u:Value} {x:AV} {els:List (List D)} (hx:RV w X μ u x) (h:FH σ.H x=some els) (hl:∀ el∈els,el.length=sz) (hz:0 < sz) (h1:∀ el∈els,∀ c∈el,D.one c=true):uc w X μ sz u els:=by
 unfold FH at h;split at h
 .exact Fc hs hx h hl hz h1
 .exact Fc hs hx h hl hz h1
theorem Z8 (hg:Good P T) (hi:In w X G μ N a σ) {r off n:Nat} {t t' ty e:TypeId} {tt te:TI} (dP:T t=some tt) (ea:tt.desc = .slice e) (c8:T e=some te) (Nd:te.size=1) {els news:List (List D)} {u v:Value}
  (hH:σ.H r=some (.sl e 1 els)) (hle:off+n<=els.length) (qL:0 < els.length) (hu:RV w X μ u (.own r off n)) (hn:uc w X μ 1 v news) :
  pc Mv X G N w μ a ((Builtin.copy_ #[t,t'] ty #[u,v]).run P w) (.d (.v (.int .i64 ((news.take n).length:Nat)))) ⟨σ.env,bk σ.H r (.sl e 1 (oN els news off n))⟩:=by
 obtain⟨m,hm,hh⟩:=hu.ml;obtain⟨m',cL,ok⟩:=hi.bx.rows r _ hH;rw[hm]at cL;obtain rfl:=AI cL;have ht:=(hg t tt dP).1;rw[ea]at ht;obtain⟨xR,i0,ma,eV,iF,mW,_⟩:=hg e te c8
 have bp:(P.info? e).map (·.size)=some 1:=by rw[ma];simp[eV,Nd]
 cases ok with
 | nil br _=>simp at qL
 | sl hb xQ p4 cY lf iq hl hz hr=>
  rename_i b cur
  rcases hh with⟨br,_⟩ | ⟨b',br,rfl,k8⟩
  .rw[hb]at br;cases br
  rw[hb]at br;obtain rfl:=AI br;rw[xQ];rw[anx]at cY ⊢;by_cases h0:(news.take n)=[]
  .-- nothing goes over
   have hv:∃ ad c,v = .slice ad news.length c:=by
    rcases hn.at_ with⟨rfl,ad,c,rfl⟩ | ⟨ad,c,iy,rfl,_⟩
    .exact⟨_,_,rfl⟩
    .exact⟨_,_,rfl⟩
   obtain⟨ad,c,rfl⟩:=hv
   have MN:Nat.min news.length n=0:=by
    have:=congrArg List.length h0;rw[amw,am2]at this;rw[Nat.min_comm]at this;exact this
   have dK:(Builtin.copy_ #[t,t'] ty #[.slice (some ⟨b,off,none⟩) n (m.cap - off),.slice ad news.length c]).run P w = .ok (goInt 0) w:=by
    have hl:∀ (x:Addr),(loadCells x 0).run P w = .ok #[] w:=fun x=>by simpa using run_loadCells_list (P:=P) w x [] ak
    cases ad<;>simp[Builtin.copy_,run_underlying ht,Builtin.lenOf,Builtin.firstCells,sizeOf,typeInfo,ma,MN,storeCells,hl]
   have he:bk σ.H r (.sl e 1 (oN els news off n))=σ.H:=by
    funext q;by_cases hq:q=r
    .subst hq;simp[bk,hH,oN,h0]
    .simp[bk,hq]
   refine⟨_,w,μ,dK,?_,?_,Ev.refl ..⟩
   .rw[he];exact hi
   .rw[h0];exact .d (.v _)
  .rcases hn.at_ with⟨rfl,_⟩ | ⟨ad,cap,iy,rfl,fz,xL,p6,lV⟩
   .simp at h0
   rw[anx]at fz
   have cH:(iy.take n).length=(news.take n).length:=by simp[fz]
   have hlen:(news.take n).length<=n:=by simp;omega
   have k9:off+(iy.take n).length<=cur.size:=aa
   have dK:=run_copy_row P w t t' ty e b off n (m.cap - off) ad news.length cap cur e (iy.take n) ht bp p4 (by rw[cH,amw,Nat.min_comm])
    (fun j v hv=>by
     rw[amv]at hv;split at hv
     .exact xL j v hv
     .cases hv) k9 (fun v hv=>p6 v (amr hv))
   rw[dK]
   obtain⟨aR,bd⟩:=hi.write (Mv:=Mv) (w':=w.setRow b (cur.toList.take off ++ iy.take n ++ cur.toList.drop (off+(iy.take n).length)).toArray) hm hb ak rfl rfl rfl (fun k hk=>setRow_other w b k _ hk)
    (row:=.sl e 1 (oN els news off n)) fun ev=>by
     have ab4:cur.toList.length=cur.size:=ak
     have ab1:(oN els news off n).length=els.length:=by unfold oN;simp only[amp,amw,amF];omega
     refine .sl hb xQ (setRow_heap w b cur _ e _ p4) ?_ (by rw[ab1];exact lf) iq ?_ hz ?_
     .simp only[ans,amp,amw,amF,amK]at cH hlen k9 ⊢;omega
     .intro el bn;unfold oN at bn
      rcases amq.1 bn with h | h
      .rcases amq.1 h with h | h
       .exact hl el (amr h)
       .exact hn.len el (amr h)
      .exact hl el (am3 h)
     .intro i k el c fK hk
      have ala:el.length=1:=by
       have bn:=amZ fK;unfold oN at bn
       rcases amq.1 bn with h | h
       .rcases amq.1 h with h | h
        .exact hl el (amr h)
        .exact hn.len el (amr h)
       .exact hl el (am3 h)
      have gn:k=0:=by have:=(BY.1 hk).1;omega
      subst gn;rw[anx,anj,<- ams];simp only;rw[CL _ _ _ _ (by rw[ab4];exact k9)];unfold oN at fK;rw[CL _ _ _ _ aa]at fK;split at fK
      .rename_i aR;rw[if_pos (by rw[cH];exact aR)];rw[amv]at fK;split at fK
       .rename_i aG;obtain⟨v,hv,bQ⟩:=lV _ _ el c fK hk;rw[anx,anj]at hv;exact⟨v,by rw[amv,if_pos aG];exact hv,bQ.ev ev⟩
       .cases fK
      .rename_i uH;rw[if_neg (by rw[cH];exact uH)];obtain⟨v,hv,bQ⟩:=hr i 0 el c fK hk;rw[anx,anj]at hv;exact⟨v,by rw[ams];exact hv,bQ.ev ev⟩
   refine⟨_,_,_,rfl,aR,?_,bd⟩;rw[cH];exact .d (.v _)
theorem Z9 (hg:Good P T) (hi:In w X G μ N a σ) {t t' ty e:TypeId} {tt te:TI} (dP:T t=some tt) (ea:tt.desc = .slice e) (c8:T e=some te) {k:Option Bool} {news:List (List D)} {u v:Value}
  (hu:RV w X μ u (.d (.sl k []))) (hn:uc w X μ te.size v news) :
  pc Mv X G N w μ a ((Builtin.copy_ #[t,t'] ty #[u,v]).run P w) (.d (.v (.int .i64 0))) σ:=by
 have ht:=(hg t tt dP).1;rw[ea]at ht;obtain⟨xR,i0,ma,eV,iF,mW,_⟩:=hg e te c8
 have Nl:∃ ad c,u = .slice ad 0 c:=by
  rcases hu.data.sW with⟨rfl,_⟩ | ⟨ad,cap,rfl,_⟩
  .exact⟨_,_,rfl⟩
  .exact⟨_,_,rfl⟩
 have hv:∃ ad m c,v = .slice ad m c:=by
  rcases hn.at_ with⟨_,ad,c,rfl⟩ | ⟨ad,c,iy,rfl,_⟩
  .exact⟨_,_,_,rfl⟩
  .exact⟨_,_,_,rfl⟩
 obtain⟨Qf,c1,rfl⟩:=Nl;obtain⟨ad,m,c,rfl⟩:=hv
 have dK:(Builtin.copy_ #[t,t'] ty #[.slice Qf 0 c1,.slice ad m c]).run P w = .ok (goInt 0) w:=by
  have hl:∀ (x:Addr),(loadCells x 0).run P w = .ok #[] w:=fun x=>by simpa using run_loadCells_list (P:=P) w x [] ak
  have MN:Nat.min m 0=0:=Nat.min_zero m;cases ad<;>cases Qf<;>simp[Builtin.copy_,run_underlying ht,Builtin.lenOf,Builtin.firstCells,sizeOf,typeInfo,ma,MN,storeCells,hl]
 exact⟨_,w,μ,dK,hi,.d (.v _),Ev.refl ..⟩
end
