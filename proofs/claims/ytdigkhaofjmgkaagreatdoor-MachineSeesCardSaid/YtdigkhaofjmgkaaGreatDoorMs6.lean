/- Parts. -/
import Derived.Test.YtdigkhaofjmgkaaGreatDoorMs5
import Derived.Laws.CopyRow
set_option linter.unusedSectionVars false
set_option linter.unusedSimpArgs false
set_option linter.unusedVariables false
namespace Go.Av
def xx (H:Heap):AV->Option (List (List D))
 | .own q off n=>jz H (q+1) (.own q off n)
 | v=>jz H 0 v
def lH (els news:List (List D)) (off n:Nat):List (List D):=els.take off ++ news.take n ++ els.drop (off+(news.take n).length)
section
variable {P:Program} {T:Ty} {Mv X:Nat->Prop} {G:ao} {N:Fr} {w:World} {μ:Mu} {a:Act} {σ:St}
theorem afQ (hs:Sim w X μ σ.H) {sz:Nat} {u:Value} {x:AV} {els:List (List D)} (hx:RV w X μ u x) (h:xx σ.H x=some els) (hl:∀ el∈els,el.length=sz) (hz:0 < sz) (h1:∀ el∈els,∀ c∈el,D.one c=true):ot w X μ sz u els:=by
 unfold xx at h;split at h
 .exact zC hs hx h hl hz h1
 .exact zC hs hx h hl hz h1
theorem NC (hg:Good P T) (hi:In w X G μ N a σ) {r off n:Nat} {t t' ty e:TypeId} {tt te:TI} (cJ:T t=some tt) (cN:tt.desc = .slice e) (cg:T e=some te) (C4:te.size=1) {els news:List (List D)} {u v:Value}
  (hH:σ.H r=some (.sl e 1 els)) (hle:off+n<=els.length) (afk:0 < els.length) (hu:RV w X μ u (.own r off n)) (hn:ot w X μ 1 v news) :
  ku Mv X G N w μ a ((Builtin.copy_ #[t,t'] ty #[u,v]).run P w) (.d (.v (.int .i64 ((news.take n).length:Nat)))) ⟨σ.env,aL σ.H r (.sl e 1 (lH els news off n))⟩:=by
 obtain⟨m,hm,hh⟩:=hu.jd;obtain⟨m',bU,ok⟩:=hi.aY.rows r _ hH;rw[hm]at bU;obtain rfl:=Option.some.inj bU;have ht:=(hg t tt cJ).1;rw[cN]at ht;obtain⟨r6,i0,js,eJ,eF,hz0,_⟩:=hg e te cg
 have aK:(P.info? e).map (·.size)=some 1:=by rw[js];simp[eJ,C4]
 cases ok with
 | nil aT _=>simp at afk
 | sl hb qn nM hcs kI fc hl hz hr=>
  rename_i b cur
  rcases hh with⟨aT,_⟩ | ⟨b',aT,rfl,acN⟩
  .rw[hb]at aT;cases aT
  rw[hb]at aT;obtain rfl:=Option.some.inj aT;rw[qn];rw[Nat.mul_one]at hcs ⊢;by_cases h0:(news.take n)=[]
  .-- nothing goes over
   have hv:∃ ad c,v = .slice ad news.length c:=by
    rcases hn.at_ with⟨rfl,ad,c,rfl⟩ | ⟨ad,c,nws,rfl,_⟩
    .exact⟨_,_,rfl⟩
    .exact⟨_,_,rfl⟩
   obtain⟨ad,c,rfl⟩:=hv
   have CN:Nat.min news.length n=0:=by
    have:=congrArg List.length h0;rw[List.length_take,List.length_nil]at this;rw[Nat.min_comm]at this;exact this
   have bR:(Builtin.copy_ #[t,t'] ty #[.slice (some ⟨b,off,none⟩) n (m.cap - off),.slice ad news.length c]).run P w = .ok (goInt 0) w:=by
    have hl:∀ (x:Addr),(loadCells x 0).run P w = .ok #[] w:=fun x=>by simpa using run_loadCells_list (P:=P) w x [] (by simp)
    cases ad<;>simp[Builtin.copy_,run_underlying ht,Builtin.lenOf,Builtin.firstCells,sizeOf,typeInfo,js,CN,storeCells,hl]
   have he:aL σ.H r (.sl e 1 (lH els news off n))=σ.H:=by
    funext q;by_cases hq:q=r
    .subst hq;simp[aL,hH,lH,h0]
    .simp[aL,hq]
   refine⟨_,w,μ,bR,?_,?_,Ev.refl ..⟩
   .rw[he];exact hi
   .rw[h0];exact .d (.v _)
  .rcases hn.at_ with⟨rfl,_⟩ | ⟨ad,cap,nws,rfl,hnl,wv,wu,jQ⟩
   .simp at h0
   rw[Nat.mul_one]at hnl
   have hcl:(nws.take n).length=(news.take n).length:=by simp[hnl]
   have hlen:(news.take n).length<=n:=by simp;omega
   have iz:off+(nws.take n).length<=cur.size:=by omega
   have bR:=run_copy_row P w t t' ty e b off n (m.cap - off) ad news.length cap cur e (nws.take n) ht aK nM (by rw[hcl,List.length_take,Nat.min_comm])
    (fun j v hv=>by
     rw[List.getElem?_take]at hv;split at hv
     .exact wv j v hv
     .cases hv) iz (fun v hv=>wu v (List.mem_of_mem_take hv))
   rw[bR]
   obtain⟨aF,aJ⟩:=hi.write (Mv:=Mv) (w':=w.setRow b (cur.toList.take off ++ nws.take n ++ cur.toList.drop (off+(nws.take n).length)).toArray) hm hb (by simp) rfl rfl rfl (fun k hk=>setRow_other w b k _ hk)
    (row:=.sl e 1 (lH els news off n)) fun ev=>by
     have P6:cur.toList.length=cur.size:=by simp
     have agm:(lH els news off n).length=els.length:=by unfold lH;simp only[List.length_append,List.length_take,List.length_drop];omega
     refine .sl hb qn (setRow_heap w b cur _ e _ nM) ?_ (by rw[agm];exact kI) fc ?_ hz ?_
     .simp only[List.size_toArray,List.length_append,List.length_take,List.length_drop,Array.length_toList]at hcl hlen iz ⊢;omega
     .intro el hel;unfold lH at hel
      rcases List.mem_append.1 hel with h | h
      .rcases List.mem_append.1 h with h | h
       .exact hl el (List.mem_of_mem_take h)
       .exact hn.len el (List.mem_of_mem_take h)
      .exact hl el (List.mem_of_mem_drop h)
     .intro i k el c hi' hk
      have Za:el.length=1:=by
       have hel:=List.mem_of_getElem? hi';unfold lH at hel
       rcases List.mem_append.1 hel with h | h
       .rcases List.mem_append.1 h with h | h
        .exact hl el (List.mem_of_mem_take h)
        .exact hn.len el (List.mem_of_mem_take h)
       .exact hl el (List.mem_of_mem_drop h)
      have eg:k=0:=by have:=(List.getElem?_eq_some_iff.1 hk).1;omega
      subst eg;rw[Nat.mul_one,Nat.add_zero,<- Array.getElem?_toList];simp only;rw[uV _ _ _ _ (by rw[P6];exact iz)];unfold lH at hi';rw[uV _ _ _ _ (by omega)]at hi';split at hi'
      .rename_i aF;rw[if_pos (by rw[hcl];exact aF)];rw[List.getElem?_take]at hi';split at hi'
       .rename_i ay;obtain⟨v,hv,bC⟩:=jQ _ _ el c hi' hk;rw[Nat.mul_one,Nat.add_zero]at hv;exact⟨v,by rw[List.getElem?_take,if_pos ay];exact hv,bC.ev ev⟩
       .cases hi'
      .rename_i nP;rw[if_neg (by rw[hcl];exact nP)];obtain⟨v,hv,bC⟩:=hr i 0 el c hi' hk;rw[Nat.mul_one,Nat.add_zero]at hv;exact⟨v,by rw[Array.getElem?_toList];exact hv,bC.ev ev⟩
   refine⟨_,_,_,rfl,aF,?_,aJ⟩;rw[hcl];exact .d (.v _)
theorem ND (hg:Good P T) (hi:In w X G μ N a σ) {t t' ty e:TypeId} {tt te:TI} (cJ:T t=some tt) (cN:tt.desc = .slice e) (cg:T e=some te) {k:Option Bool} {news:List (List D)} {u v:Value}
  (hu:RV w X μ u (.d (.sl k []))) (hn:ot w X μ te.size v news) :
  ku Mv X G N w μ a ((Builtin.copy_ #[t,t'] ty #[u,v]).run P w) (.d (.v (.int .i64 0))) σ:=by
 have ht:=(hg t tt cJ).1;rw[cN]at ht;obtain⟨r6,i0,js,eJ,eF,hz0,_⟩:=hg e te cg
 have r5:∃ ad c,u = .slice ad 0 c:=by
  rcases hu.data.mD with⟨rfl,_⟩ | ⟨ad,cap,rfl,_⟩
  .exact⟨_,_,rfl⟩
  .exact⟨_,_,rfl⟩
 have hv:∃ ad m c,v = .slice ad m c:=by
  rcases hn.at_ with⟨_,ad,c,rfl⟩ | ⟨ad,c,nws,rfl,_⟩
  .exact⟨_,_,_,rfl⟩
  .exact⟨_,_,_,rfl⟩
 obtain⟨Fv,c1,rfl⟩:=r5;obtain⟨ad,m,c,rfl⟩:=hv
 have bR:(Builtin.copy_ #[t,t'] ty #[.slice Fv 0 c1,.slice ad m c]).run P w = .ok (goInt 0) w:=by
  have hl:∀ (x:Addr),(loadCells x 0).run P w = .ok #[] w:=fun x=>by simpa using run_loadCells_list (P:=P) w x [] (by simp)
  have CN:Nat.min m 0=0:=Nat.min_zero m;cases ad<;>cases Fv<;>simp[Builtin.copy_,run_underlying ht,Builtin.lenOf,Builtin.firstCells,sizeOf,typeInfo,js,CN,storeCells,hl]
 exact⟨_,w,μ,bR,hi,.d (.v _),Ev.refl ..⟩
end
