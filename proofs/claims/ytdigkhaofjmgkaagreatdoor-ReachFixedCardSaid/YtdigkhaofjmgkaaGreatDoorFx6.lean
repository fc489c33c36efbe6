/- Parts. -/
import Derived.Test.YtdigkhaofjmgkaaGreatDoorFx5
import Derived.Laws.CopyRow
set_option linter.unusedSectionVars false
set_option linter.unusedSimpArgs false
set_option linter.unusedVariables false
namespace Go.Av
def yf (H:Heap):AV->Option (List (List D))
 | .own q off n=>jA H (q+1) (.own q off n)
 | v=>jA H 0 v
def lV (els news:List (List D)) (off n:Nat):List (List D):=els.take off ++ news.take n ++ els.drop (off+(news.take n).length)
section
variable {P:Program} {T:Ty} {Mv X:Nat->Prop} {G:aq} {N:Fr} {w:World} {μ:Mu} {a:Act} {σ:St}
theorem Mf (hs:Sim w X μ σ.H) {sz:Nat} {u:Value} {x:AV} {els:List (List D)} (hx:RV w X μ u x) (h:yf σ.H x=some els) (hl:∀ el∈els,el.length=sz) (hz:0 < sz) (h1:∀ el∈els,∀ c∈el,D.one c=true):afd w X μ sz u els:=by
 unfold yf at h;split at h
 .exact Az hs hx h hl hz h1
 .exact Az hs hx h hl hz h1
theorem OY (hg:Good P T) (hi:In w X G μ N a σ) {r off n:Nat} {t t' ty e:TypeId} {tt te:TI} (cC:T t=some tt) (cM:tt.desc = .slice e) (cg:T e=some te) (D4:te.size=1) {els news:List (List D)} {u v:Value}
  (hH:σ.H r=some (.sl e 1 els)) (hle:off+n<=els.length) (mO:0 < els.length) (hu:RV w X μ u (.own r off n)) (hn:afd w X μ 1 v news) :
  aej Mv X G N w μ a ((Builtin.copy_ #[t,t'] ty #[u,v]).run P w) (.d (.v (.int .i64 ((news.take n).length:Nat)))) ⟨σ.env,aM σ.H r (.sl e 1 (lV els news off n))⟩:=by
 obtain⟨m,hm,hh⟩:=hu.je;obtain⟨m',bU,ok⟩:=hi.aX.rows r _ hH;rw[hm]at bU;obtain rfl:=AI bU;have ht:=(hg t tt cC).1;rw[cM]at ht;obtain⟨sI,i0,js,hs0,hb0,hz0,_⟩:=hg e te cg
 have aK:(P.info? e).map (·.size)=some 1:=by rw[js];simp[hs0,D4]
 cases ok with
 | nil aU _=>simp at mO
 | sl hb qX ot b8 mM fh hl hz hr=>
  rename_i b cur
  rcases hh with⟨aU,_⟩ | ⟨b',aU,rfl,ad7⟩
  .rw[hb]at aU;cases aU
  rw[hb]at aU;obtain rfl:=AI aU;rw[qX];rw[aen]at b8 ⊢;by_cases h0:(news.take n)=[]
  .-- nothing goes over
   have hv:∃ ad c,v = .slice ad news.length c:=by
    rcases hn.at_ with⟨rfl,ad,c,rfl⟩ | ⟨ad,c,nws,rfl,_⟩
    .exact⟨_,_,rfl⟩
    .exact⟨_,_,rfl⟩
   obtain⟨ad,c,rfl⟩:=hv
   have DM:Nat.min news.length n=0:=by
    have:=congrArg List.length h0;rw[acz,aeA]at this;rw[Nat.min_comm]at this;exact this
   have ab6:(Builtin.copy_ #[t,t'] ty #[.slice (some ⟨b,off,none⟩) n (m.cap - off),.slice ad news.length c]).run P w = .ok (goInt 0) w:=by
    have hl:∀ (x:Addr),(loadCells x 0).run P w = .ok #[] w:=fun x=>by simpa using run_loadCells_list (P:=P) w x [] (by simp)
    cases ad<;>simp[Builtin.copy_,run_underlying ht,Builtin.lenOf,Builtin.firstCells,sizeOf,typeInfo,js,DM,storeCells,hl]
   have he:aM σ.H r (.sl e 1 (lV els news off n))=σ.H:=by
    funext q;by_cases hq:q=r
    .subst hq;simp[aM,hH,lV,h0]
    .simp[aM,hq]
   refine⟨_,w,μ,ab6,?_,?_,Ev.refl ..⟩
   .rw[he];exact hi
   .rw[h0];exact .d (.v _)
  .rcases hn.at_ with⟨rfl,_⟩ | ⟨ad,cap,nws,rfl,hnl,xa,w9,nE⟩
   .simp at h0
   rw[aen]at hnl
   have hcl:(nws.take n).length=(news.take n).length:=by simp[hnl]
   have hlen:(news.take n).length<=n:=by simp;omega
   have iD:off+(nws.take n).length<=cur.size:=by omega
   have ab6:=run_copy_row P w t t' ty e b off n (m.cap - off) ad news.length cap cur e (nws.take n) ht aK ot (by rw[hcl,acz,Nat.min_comm])
    (fun j v hv=>by
     rw[acu]at hv;split at hv
     .exact xa j v hv
     .cases hv) iD (fun v hv=>w9 v (acd hv))
   rw[ab6]
   obtain⟨aF,aH⟩:=hi.write (Mv:=Mv) (w':=w.setRow b (cur.toList.take off ++ nws.take n ++ cur.toList.drop (off+(nws.take n).length)).toArray) hm hb (by simp) rfl rfl rfl (fun k hk=>setRow_other w b k _ hk)
    (row:=.sl e 1 (lV els news off n)) fun ev=>by
     have Rv:cur.toList.length=cur.size:=by simp
     have Rq:(lV els news off n).length=els.length:=by unfold lV;simp only[acC,acz,acK];omega
     refine .sl hb qX (setRow_heap w b cur _ e _ ot) ?_ (by rw[Rq];exact mM) fh ?_ hz ?_
     .simp only[aey,acC,acz,acK,ado]at hcl hlen iD ⊢;omega
     .intro el hel;unfold lV at hel
      rcases ab4.1 hel with h | h
      .rcases ab4.1 h with h | h
       .exact hl el (acd h)
       .exact hn.len el (acd h)
      .exact hl el (ac7 h)
     .intro i k el c da hk
      have aaJ:el.length=1:=by
       have hel:=adG da;unfold lV at hel
       rcases ab4.1 hel with h | h
       .rcases ab4.1 h with h | h
        .exact hl el (acd h)
        .exact hn.len el (acd h)
       .exact hl el (ac7 h)
      have hk0:k=0:=by have:=(OF.1 hk).1;omega
      subst hk0;rw[aen,adF,<- ab2];simp only;rw[vt _ _ _ _ (by rw[Rv];exact iD)];unfold lV at da;rw[vt _ _ _ _ (by omega)]at da;split at da
      .rename_i aF;rw[if_pos (by rw[hcl];exact aF)];rw[acu]at da;split at da
       .rename_i au;obtain⟨v,hv,bD⟩:=nE _ _ el c da hk;rw[aen,adF]at hv;exact⟨v,by rw[acu,if_pos au];exact hv,bD.ev ev⟩
       .cases da
      .rename_i ae9;rw[if_neg (by rw[hcl];exact ae9)];obtain⟨v,hv,bD⟩:=hr i 0 el c da hk;rw[aen,adF]at hv;exact⟨v,by rw[ab2];exact hv,bD.ev ev⟩
   refine⟨_,_,_,rfl,aF,?_,aH⟩;rw[hcl];exact .d (.v _)
theorem OZ (hg:Good P T) (hi:In w X G μ N a σ) {t t' ty e:TypeId} {tt te:TI} (cC:T t=some tt) (cM:tt.desc = .slice e) (cg:T e=some te) {k:Option Bool} {news:List (List D)} {u v:Value}
  (hu:RV w X μ u (.d (.sl k []))) (hn:afd w X μ te.size v news) :
  aej Mv X G N w μ a ((Builtin.copy_ #[t,t'] ty #[u,v]).run P w) (.d (.v (.int .i64 0))) σ:=by
 have ht:=(hg t tt cC).1;rw[cM]at ht;obtain⟨sI,i0,js,hs0,hb0,hz0,_⟩:=hg e te cg
 have sH:∃ ad c,u = .slice ad 0 c:=by
  rcases hu.data.na with⟨rfl,_⟩ | ⟨ad,cap,rfl,_⟩
  .exact⟨_,_,rfl⟩
  .exact⟨_,_,rfl⟩
 have hv:∃ ad m c,v = .slice ad m c:=by
  rcases hn.at_ with⟨_,ad,c,rfl⟩ | ⟨ad,c,nws,rfl,_⟩
  .exact⟨_,_,_,rfl⟩
  .exact⟨_,_,_,rfl⟩
 obtain⟨GG,c1,rfl⟩:=sH;obtain⟨ad,m,c,rfl⟩:=hv
 have ab6:(Builtin.copy_ #[t,t'] ty #[.slice GG 0 c1,.slice ad m c]).run P w = .ok (goInt 0) w:=by
  have hl:∀ (x:Addr),(loadCells x 0).run P w = .ok #[] w:=fun x=>by simpa using run_loadCells_list (P:=P) w x [] (by simp)
  have DM:Nat.min m 0=0:=Nat.min_zero m;cases ad<;>cases GG<;>simp[Builtin.copy_,run_underlying ht,Builtin.lenOf,Builtin.firstCells,sizeOf,typeInfo,js,DM,storeCells,hl]
 exact⟨_,w,μ,ab6,hi,.d (.v _),Ev.refl ..⟩
end
