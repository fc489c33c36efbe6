/- Parts. -/
import Derived.Test.YtoohljflflnbeaaGreatDoorSt5
import Derived.Laws.CopyRow
set_option linter.unusedSectionVars false
set_option linter.unusedSimpArgs false
set_option linter.unusedVariables false
namespace Go.Av
def zG (H:Heap):AV->Option (List (List D))
 | .own q off n=>lk H (q+1) (.own q off n)
 | v=>lk H 0 v
def om (els news:List (List D)) (off n:Nat):List (List D):=els.take off ++ news.take n ++ els.drop (off+(news.take n).length)
section
variable {P:Program} {T:Ty} {Mv X:Nat->Prop} {G:aF} {N:Fr} {w:World} {μ:Mu} {a:Act} {σ:St}
theorem M4 (hs:eu w X μ σ.H) {sz:Nat} {u:Value} {x:AV} {els:List (List D)} (hx:RV w X μ u x) (h:zG σ.H x=some els) (hl:∀ el∈els,el.length=sz) (hz:0 < sz) (h1:∀ el∈els,∀ c∈el,D.one c=true):qW w X μ sz u els:=by
 unfold zG at h;split at h
 .exact B4 hs hx h hl hz h1
 .exact B4 hs hx h hl hz h1
theorem Pr (hg:Good P T) (hi:In w X G μ N a σ) {r off n:Nat} {t t' ty e:TypeId} {tt te:TI} (dY:T t=some tt) (dM:tt.desc = .slice e) (cH:T e=some te) (Kb:te.size=1) {els news:List (List D)} {u v:Value}
  (hH:σ.H r=some (.sl e 1 els)) (hle:off+n<=els.length) (qy:0 < els.length) (hu:RV w X μ u (.own r off n)) (hn:qW w X μ 1 v news) :
  mo Mv X G N w μ a ((Builtin.copy_ #[t,t'] ty #[u,v]).run P w) (.d (.v (.int .i64 ((news.take n).length:Nat)))) ⟨σ.env,bk σ.H r (.sl e 1 (om els news off n))⟩:=by
 obtain⟨m,hm,hh⟩:=hu.lp;obtain⟨m',cD,ok⟩:=hi.bo.rows r _ hH;rw[hm]at cD;obtain rfl:=AI cD;have ht:=(hg t tt dY).1;rw[dM]at ht;obtain⟨uO,i0,l8,gF,pC,oL,_⟩:=hg e te cH
 have bc:(P.info? e).map (·.size)=some 1:=by rw[l8];simp[gF,Kb]
 cases ok with
 | nil bp _=>simp at qy
 | sl hb sW qs cK qw ix hl hz hr=>
  rename_i b cur
  rcases hh with⟨bp,_⟩ | ⟨b',bp,rfl,jl⟩
  .rw[hb]at bp;cases bp
  rw[hb]at bp;obtain rfl:=AI bp;rw[sW];rw[ab3]at cK ⊢;by_cases h0:(news.take n)=[]
  .-- nothing goes over
   have hv:∃ ad c,v = .slice ad news.length c:=by
    rcases hn.at_ with⟨rfl,ad,c,rfl⟩ | ⟨ad,c,jJ,rfl,_⟩
    .exact⟨_,_,rfl⟩
    .exact⟨_,_,rfl⟩
   obtain⟨ad,c,rfl⟩:=hv
   have E1:Nat.min news.length n=0:=by
    have:=congrArg List.length h0;rw[abk,abX]at this;rw[Nat.min_comm]at this;exact this
   have e9:(Builtin.copy_ #[t,t'] ty #[.slice (some ⟨b,off,none⟩) n (m.cap - off),.slice ad news.length c]).run P w = .ok (goInt 0) w:=by
    have hl:∀ (x:Addr),(loadCells x 0).run P w = .ok #[] w:=fun x=>by simpa using run_loadCells_list (P:=P) w x [] al
    cases ad<;>simp[Builtin.copy_,run_underlying ht,Builtin.lenOf,Builtin.firstCells,sizeOf,typeInfo,l8,E1,storeCells,hl]
   have he:bk σ.H r (.sl e 1 (om els news off n))=σ.H:=by
    funext q;by_cases hq:q=r
    .subst hq;simp[bk,hH,om,h0]
    .simp[bk,hq]
   refine⟨_,w,μ,e9,?_,?_,Ev.refl ..⟩
   .rw[he];exact hi
   .rw[h0];exact .d (.v _)
  .rcases hn.at_ with⟨rfl,_⟩ | ⟨ad,cap,jJ,rfl,dX,yI,rN,qx⟩
   .simp at h0
   rw[ab3]at dX
   have e6:(jJ.take n).length=(news.take n).length:=by simp[dX]
   have hlen:(news.take n).length<=n:=by simp;omega
   have j8:off+(jJ.take n).length<=cur.size:=aa
   have e9:=run_copy_row P w t t' ty e b off n (m.cap - off) ad news.length cap cur e (jJ.take n) ht bc qs (by rw[e6,abk,Nat.min_comm])
    (fun j v hv=>by
     rw[abf]at hv;split at hv
     .exact yI j v hv
     .cases hv) j8 (fun v hv=>rN v (abi hv))
   rw[e9]
   obtain⟨bn,br⟩:=hi.write (Mv:=Mv) (w':=w.setRow b (cur.toList.take off ++ jJ.take n ++ cur.toList.drop (off+(jJ.take n).length)).toArray) hm hb al rfl rfl rfl (fun k hk=>setRow_other w b k _ hk)
    (row:=.sl e 1 (om els news off n)) fun ev=>by
     have Rr:cur.toList.length=cur.size:=al
     have Rm:(om els news off n).length=els.length:=by unfold om;simp only[abb,abk,abp];omega
     refine .sl hb sW (setRow_heap w b cur _ e _ qs) ?_ (by rw[Rm];exact qw) ix ?_ hz ?_
     .simp only[acp,abb,abk,abp,abO]at e6 hlen j8 ⊢;omega
     .intro el bu;unfold om at bu
      rcases abr.1 bu with h | h
      .rcases abr.1 h with h | h
       .exact hl el (abi h)
       .exact hn.len el (abi h)
      .exact hl el (acg h)
     .intro i k el c eO hk
      have Z4:el.length=1:=by
       have bu:=abR eO;unfold om at bu
       rcases abr.1 bu with h | h
       .rcases abr.1 h with h | h
        .exact hl el (abi h)
        .exact hn.len el (abi h)
       .exact hl el (acg h)
      have ma:k=0:=by have:=(By.1 hk).1;omega
      subst ma;rw[ab3,abT,<- abc];simp only;rw[xb _ _ _ _ (by rw[Rr];exact j8)];unfold om at eO;rw[xb _ _ _ _ aa]at eO;split at eO
      .rename_i bn;rw[if_pos (by rw[e6];exact bn)];rw[abf]at eO;split at eO
       .rename_i bf;obtain⟨v,hv,cm⟩:=qx _ _ el c eO hk;rw[ab3,abT]at hv;exact⟨v,by rw[abf,if_pos bf];exact hv,cm.ev ev⟩
       .cases eO
      .rename_i nD;rw[if_neg (by rw[e6];exact nD)];obtain⟨v,hv,cm⟩:=hr i 0 el c eO hk;rw[ab3,abT]at hv;exact⟨v,by rw[abc];exact hv,cm.ev ev⟩
   refine⟨_,_,_,rfl,bn,?_,br⟩;rw[e6];exact .d (.v _)
theorem Ps (hg:Good P T) (hi:In w X G μ N a σ) {t t' ty e:TypeId} {tt te:TI} (dY:T t=some tt) (dM:tt.desc = .slice e) (cH:T e=some te) {k:Option Bool} {news:List (List D)} {u v:Value}
  (hu:RV w X μ u (.d (.sl k []))) (hn:qW w X μ te.size v news) :
  mo Mv X G N w μ a ((Builtin.copy_ #[t,t'] ty #[u,v]).run P w) (.d (.v (.int .i64 0))) σ:=by
 have ht:=(hg t tt dY).1;rw[dM]at ht;obtain⟨uO,i0,l8,gF,pC,oL,_⟩:=hg e te cH
 have Fy:∃ ad c,u = .slice ad 0 c:=by
  rcases hu.data.oT with⟨rfl,_⟩ | ⟨ad,cap,rfl,_⟩
  .exact⟨_,_,rfl⟩
  .exact⟨_,_,rfl⟩
 have hv:∃ ad m c,v = .slice ad m c:=by
  rcases hn.at_ with⟨_,ad,c,rfl⟩ | ⟨ad,c,jJ,rfl,_⟩
  .exact⟨_,_,_,rfl⟩
  .exact⟨_,_,_,rfl⟩
 obtain⟨HP,c1,rfl⟩:=Fy;obtain⟨ad,m,c,rfl⟩:=hv
 have e9:(Builtin.copy_ #[t,t'] ty #[.slice HP 0 c1,.slice ad m c]).run P w = .ok (goInt 0) w:=by
  have hl:∀ (x:Addr),(loadCells x 0).run P w = .ok #[] w:=fun x=>by simpa using run_loadCells_list (P:=P) w x [] al
  have E1:Nat.min m 0=0:=Nat.min_zero m;cases ad<;>cases HP<;>simp[Builtin.copy_,run_underlying ht,Builtin.lenOf,Builtin.firstCells,sizeOf,typeInfo,l8,E1,storeCells,hl]
 exact⟨_,w,μ,e9,hi,.d (.v _),Ev.refl ..⟩
end
