/- Parts. -/
import Derived.Test.YtdigkhaofjmgkaaGreatDoorPs5
import Derived.Laws.CopyRow
set_option linter.unusedSectionVars false
set_option linter.unusedSimpArgs false
set_option linter.unusedVariables false
namespace Go.Av
def uC (H:Heap):AV->Option (List (List D))
 | .own q off n=>ZX H (q+1) (.own q off n)
 | v=>ZX H 0 v
def js (els news:List (List D)) (off n:Nat):List (List D):=els.take off ++ news.take n ++ els.drop (off+(news.take n).length)
section
variable {P:Program} {T:Ty} {Mv X:Nat->Prop} {G:Yt} {N:Fr} {w:World} {μ:Mu} {a:Act} {σ:St}
theorem Jc (hs:cw w X μ σ.H) {sz:Nat} {u:Value} {x:AV} {els:List (List D)} (hx:RV w X μ u x) (h:uC σ.H x=some els) (hl:∀ el∈els,el.length=sz) (hz:0 < sz) (h1:∀ el∈els,∀ c∈el,D.one c=true):lU w X μ sz u els:=by
 unfold uC at h;split at h
 .exact ue hs hx h hl hz h1
 .exact ue hs hx h hl hz h1
theorem LH (hg:Good P T) (hi:In w X G μ N a σ) {r off n:Nat} {t t' ty e:TypeId} {tt te:TI} (YO:T t=some tt) (YQ:tt.desc = .slice e) (bJ:T e=some te) (Bc:te.size=1) {els news:List (List D)} {u v:Value}
  (hH:σ.H r=some (.sl e 1 els)) (hle:off+n<=els.length) (l5:0 < els.length) (hu:RV w X μ u (.own r off n)) (hn:lU w X μ 1 v news) :
  iu Mv X G N w μ a ((Builtin.copy_ #[t,t'] ty #[u,v]).run P w) (.d (.v (.int .i64 ((news.take n).length:Nat)))) ⟨σ.env,aF σ.H r (.sl e 1 (js els news off n))⟩:=by
 obtain⟨m,hm,hh⟩:=hu.gV;obtain⟨m',bA,ok⟩:=hi.aL.rows r _ hH;rw[hm]at bA;obtain rfl:=Option.some.inj bA;have ht:=(hg t tt YO).1;rw[YQ]at ht;obtain⟨oH,i0,gN,c6,ZQ,ic,_⟩:=hg e te bJ
 have aK:(P.info? e).map (·.size)=some 1:=by rw[gN];simp[c6,Bc]
 cases ok with
 | nil aH _=>simp at l5
 | sl hb oG ja bR iG dK hl hz hr=>
  rename_i b cur
  rcases hh with⟨aH,_⟩ | ⟨b',aH,rfl,fL⟩
  .rw[hb]at aH;cases aH
  rw[hb]at aH;obtain rfl:=Option.some.inj aH;rw[oG];rw[Nat.mul_one]at bR ⊢;by_cases h0:(news.take n)=[]
  .-- nothing goes over
   have hv:∃ ad c,v = .slice ad news.length c:=by
    rcases hn.at_ with⟨rfl,ad,c,rfl⟩ | ⟨ad,c,dN,rfl,_⟩
    .exact⟨_,_,rfl⟩
    .exact⟨_,_,rfl⟩
   obtain⟨ad,c,rfl⟩:=hv
   have AN:Nat.min news.length n=0:=by
    have:=congrArg List.length h0;rw[List.length_take,List.length_nil]at this;rw[Nat.min_comm]at this;exact this
   have bt:(Builtin.copy_ #[t,t'] ty #[.slice (some ⟨b,off,none⟩) n (m.cap - off),.slice ad news.length c]).run P w = .ok (goInt 0) w:=by
    have hl:∀ (x:Addr),(loadCells x 0).run P w = .ok #[] w:=fun x=>by simpa using run_loadCells_list (P:=P) w x [] (by simp)
    cases ad<;>simp[Builtin.copy_,run_underlying ht,Builtin.lenOf,Builtin.firstCells,sizeOf,typeInfo,gN,AN,storeCells,hl]
   have he:aF σ.H r (.sl e 1 (js els news off n))=σ.H:=by
    funext q;by_cases hq:q=r
    .subst hq;simp[aF,hH,js,h0]
    .simp[aF,hq]
   refine⟨_,w,μ,bt,?_,?_,Ev.refl ..⟩
   .rw[he];exact hi
   .rw[h0];exact .d (.v _)
  .rcases hn.at_ with⟨rfl,_⟩ | ⟨ad,cap,dN,rfl,eK,oB,kh,fZ⟩
   .simp at h0
   rw[Nat.mul_one]at eK
   have bO:(dN.take n).length=(news.take n).length:=by simp[eK]
   have hlen:(news.take n).length<=n:=by simp;omega
   have ZR:off+(dN.take n).length<=cur.size:=by omega
   have bt:=run_copy_row P w t t' ty e b off n (m.cap - off) ad news.length cap cur e (dN.take n) ht aK ja (by rw[bO,List.length_take,Nat.min_comm])
    (fun j v hv=>by
     rw[List.getElem?_take]at hv;split at hv
     .exact oB j v hv
     .cases hv) ZR (fun v hv=>kh v (List.mem_of_mem_take hv))
   rw[bt]
   obtain⟨ax,aB⟩:=hi.write (Mv:=Mv) (w':=w.setRow b (cur.toList.take off ++ dN.take n ++ cur.toList.drop (off+(dN.take n).length)).toArray) hm hb (by simp) rfl rfl rfl (fun k hk=>setRow_other w b k _ hk)
    (row:=.sl e 1 (js els news off n)) fun ev=>by
     have Om:cur.toList.length=cur.size:=by simp
     have Oh:(js els news off n).length=els.length:=by unfold js;simp only[List.length_append,List.length_take,List.length_drop];omega
     refine .sl hb oG (setRow_heap w b cur _ e _ ja) ?_ (by rw[Oh];exact iG) dK ?_ hz ?_
     .simp only[List.size_toArray,List.length_append,List.length_take,List.length_drop,Array.length_toList]at bO hlen ZR ⊢;omega
     .intro el aJ;unfold js at aJ
      rcases List.mem_append.1 aJ with h | h
      .rcases List.mem_append.1 h with h | h
       .exact hl el (List.mem_of_mem_take h)
       .exact hn.len el (List.mem_of_mem_take h)
      .exact hl el (List.mem_of_mem_drop h)
     .intro i k el c cz hk
      have Xp:el.length=1:=by
       have aJ:=List.mem_of_getElem? cz;unfold js at aJ
       rcases List.mem_append.1 aJ with h | h
       .rcases List.mem_append.1 h with h | h
        .exact hl el (List.mem_of_mem_take h)
        .exact hn.len el (List.mem_of_mem_take h)
       .exact hl el (List.mem_of_mem_drop h)
      have re:k=0:=by have:=(List.getElem?_eq_some_iff.1 hk).1;omega
      subst re;rw[Nat.mul_one,Nat.add_zero,<- Array.getElem?_toList];simp only;rw[abV _ _ _ _ (by rw[Om];exact ZR)];unfold js at cz;rw[abV _ _ _ _ (by omega)]at cz;split at cz
      .rename_i ax;rw[if_pos (by rw[bO];exact ax)];rw[List.getElem?_take]at cz;split at cz
       .rename_i Yv;obtain⟨v,hv,bq⟩:=fZ _ _ el c cz hk;rw[Nat.mul_one,Nat.add_zero]at hv;exact⟨v,by rw[List.getElem?_take,if_pos Yv];exact hv,bq.ev ev⟩
       .cases cz
      .rename_i tu;rw[if_neg (by rw[bO];exact tu)];obtain⟨v,hv,bq⟩:=hr i 0 el c cz hk;rw[Nat.mul_one,Nat.add_zero]at hv;exact⟨v,by rw[Array.getElem?_toList];exact hv,bq.ev ev⟩
   refine⟨_,_,_,rfl,ax,?_,aB⟩;rw[bO];exact .d (.v _)
theorem LI (hg:Good P T) (hi:In w X G μ N a σ) {t t' ty e:TypeId} {tt te:TI} (YO:T t=some tt) (YQ:tt.desc = .slice e) (bJ:T e=some te) {k:Option Bool} {news:List (List D)} {u v:Value}
  (hu:RV w X μ u (.d (.sl k []))) (hn:lU w X μ te.size v news) :
  iu Mv X G N w μ a ((Builtin.copy_ #[t,t'] ty #[u,v]).run P w) (.d (.v (.int .i64 0))) σ:=by
 have ht:=(hg t tt YO).1;rw[YQ]at ht;obtain⟨oH,i0,gN,c6,ZQ,ic,_⟩:=hg e te bJ
 have p5:∃ ad c,u = .slice ad 0 c:=by
  rcases hu.data.k8 with⟨rfl,_⟩ | ⟨ad,cap,rfl,_⟩
  .exact⟨_,_,rfl⟩
  .exact⟨_,_,rfl⟩
 have hv:∃ ad m c,v = .slice ad m c:=by
  rcases hn.at_ with⟨_,ad,c,rfl⟩ | ⟨ad,c,dN,rfl,_⟩
  .exact⟨_,_,_,rfl⟩
  .exact⟨_,_,_,rfl⟩
 obtain⟨Dq,c1,rfl⟩:=p5;obtain⟨ad,m,c,rfl⟩:=hv
 have bt:(Builtin.copy_ #[t,t'] ty #[.slice Dq 0 c1,.slice ad m c]).run P w = .ok (goInt 0) w:=by
  have hl:∀ (x:Addr),(loadCells x 0).run P w = .ok #[] w:=fun x=>by simpa using run_loadCells_list (P:=P) w x [] (by simp)
  have AN:Nat.min m 0=0:=Nat.min_zero m;cases ad<;>cases Dq<;>simp[Builtin.copy_,run_underlying ht,Builtin.lenOf,Builtin.firstCells,sizeOf,typeInfo,gN,AN,storeCells,hl]
 exact⟨_,w,μ,bt,hi,.d (.v _),Ev.refl ..⟩
end
