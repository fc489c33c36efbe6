/- Parts. -/
import Derived.Test.YtdigkhaofjmgkaaGreatDoorIs5
import Derived.Laws.CopyRow
set_option linter.unusedSectionVars false
set_option linter.unusedSimpArgs false
set_option linter.unusedVariables false
namespace Go.Av
def u0 (H:Heap):AV->Option (List (List D))
 | .own q off n=>aak H (q+1) (.own q off n)
 | v=>aak H 0 v
def jy (els news:List (List D)) (off n:Nat):List (List D):=els.take off ++ news.take n ++ els.drop (off+(news.take n).length)
section
variable {P:Program} {T:Ty} {Mv X:Nat->Prop} {G:YI} {N:Fr} {w:World} {μ:Mu} {a:Act} {σ:St}
theorem Jv (hs:Zf w X μ σ.H) {sz:Nat} {u:Value} {x:AV} {els:List (List D)} (hx:RV w X μ u x) (h:u0 σ.H x=some els) (hl:∀ el∈els,el.length=sz) (hz:0 < sz) (h1:∀ el∈els,∀ c∈el,D.one c=true):l4 w X μ sz u els:=by
 unfold u0 at h;split at h
 .exact uH hs hx h hl hz h1
 .exact uH hs hx h hl hz h1
theorem L9 (hg:Good P T) (hi:In w X G μ N a σ) {r off n:Nat} {t t' ty e:TypeId} {tt te:TI} (b4:T t=some tt) (b5:tt.desc = .slice e) (bI:T e=some te) (Br:te.size=1) {els news:List (List D)} {u v:Value}
  (hH:σ.H r=some (.sl e 1 els)) (hle:off+n<=els.length) (rC:0 < els.length) (hu:RV w X μ u (.own r off n)) (hn:l4 w X μ 1 v news) :
  iy Mv X G N w μ a ((Builtin.copy_ #[t,t'] ty #[u,v]).run P w) (.d (.v (.int .i64 ((news.take n).length:Nat)))) ⟨σ.env,aF σ.H r (.sl e 1 (jy els news off n))⟩:=by
 obtain⟨m,hm,hh⟩:=hu.Z3;obtain⟨m',bx,ok⟩:=hi.aL.rows r _ hH;rw[hm]at bx;obtain rfl:=Option.some.inj bx;have ht:=(hg t tt b4).1;rw[b5]at ht;obtain⟨oU,i0,gY,Zm,hb0,ik,_⟩:=hg e te bI
 have aK:(P.info? e).map (·.size)=some 1:=by rw[gY];simp[Zm,Br]
 cases ok with
 | nil aH _=>simp at rC
 | sl hb oT jb bR iI dG hl hz hr=>
  rename_i b cur
  rcases hh with⟨aH,_⟩ | ⟨b',aH,rfl,fR⟩
  .rw[hb]at aH;cases aH
  rw[hb]at aH;obtain rfl:=Option.some.inj aH;rw[oT];rw[Nat.mul_one]at bR ⊢;by_cases h0:(news.take n)=[]
  .-- nothing goes over
   have hv:∃ ad c,v = .slice ad news.length c:=by
    rcases hn.at_ with⟨rfl,ad,c,rfl⟩ | ⟨ad,c,dI,rfl,_⟩
    .exact⟨_,_,rfl⟩
    .exact⟨_,_,rfl⟩
   obtain⟨ad,c,rfl⟩:=hv
   have A3:Nat.min news.length n=0:=by
    have:=congrArg List.length h0;rw[List.length_take,List.length_nil]at this;rw[Nat.min_comm]at this;exact this
   have bt:(Builtin.copy_ #[t,t'] ty #[.slice (some ⟨b,off,none⟩) n (m.cap - off),.slice ad news.length c]).run P w = .ok (goInt 0) w:=by
    have hl:∀ (x:Addr),(loadCells x 0).run P w = .ok #[] w:=fun x=>by simpa using run_loadCells_list (P:=P) w x [] (by simp)
    cases ad<;>simp[Builtin.copy_,run_underlying ht,Builtin.lenOf,Builtin.firstCells,sizeOf,typeInfo,gY,A3,storeCells,hl]
   have he:aF σ.H r (.sl e 1 (jy els news off n))=σ.H:=by
    funext q;by_cases hq:q=r
    .subst hq;simp[aF,hH,jy,h0]
    .simp[aF,hq]
   refine⟨_,w,μ,bt,?_,?_,Ev.refl ..⟩
   .rw[he];exact hi
   .rw[h0];exact .d (.v _)
  .rcases hn.at_ with⟨rfl,_⟩ | ⟨ad,cap,dI,rfl,eJ,oO,jf,gk⟩
   .simp at h0
   rw[Nat.mul_one]at eJ
   have bQ:(dI.take n).length=(news.take n).length:=by simp[eJ]
   have hlen:(news.take n).length<=n:=by simp;omega
   have aae:off+(dI.take n).length<=cur.size:=by omega
   have bt:=run_copy_row P w t t' ty e b off n (m.cap - off) ad news.length cap cur e (dI.take n) ht aK jb (by rw[bQ,List.length_take,Nat.min_comm])
    (fun j v hv=>by
     rw[List.getElem?_take]at hv;split at hv
     .exact oO j v hv
     .cases hv) aae (fun v hv=>jf v (List.mem_of_mem_take hv))
   rw[bt]
   obtain⟨ax,aD⟩:=hi.write (Mv:=Mv) (w':=w.setRow b (cur.toList.take off ++ dI.take n ++ cur.toList.drop (off+(dI.take n).length)).toArray) hm hb (by simp) rfl rfl rfl (fun k hk=>setRow_other w b k _ hk)
    (row:=.sl e 1 (jy els news off n)) fun ev=>by
     have OM:cur.toList.length=cur.size:=by simp
     have OJ:(jy els news off n).length=els.length:=by unfold jy;simp only[List.length_append,List.length_take,List.length_drop];omega
     refine .sl hb oT (setRow_heap w b cur _ e _ jb) ?_ (by rw[OJ];exact iI) dG ?_ hz ?_
     .simp only[List.size_toArray,List.length_append,List.length_take,List.length_drop,Array.length_toList]at bQ hlen aae ⊢;omega
     .intro el aN;unfold jy at aN
      rcases List.mem_append.1 aN with h | h
      .rcases List.mem_append.1 h with h | h
       .exact hl el (List.mem_of_mem_take h)
       .exact hn.len el (List.mem_of_mem_take h)
      .exact hl el (List.mem_of_mem_drop h)
     .intro i k el c cK hk
      have XE:el.length=1:=by
       have aN:=List.mem_of_getElem? cK;unfold jy at aN
       rcases List.mem_append.1 aN with h | h
       .rcases List.mem_append.1 h with h | h
        .exact hl el (List.mem_of_mem_take h)
        .exact hn.len el (List.mem_of_mem_take h)
       .exact hl el (List.mem_of_mem_drop h)
      have ry:k=0:=by have:=(List.getElem?_eq_some_iff.1 hk).1;omega
      subst ry;rw[Nat.mul_one,Nat.add_zero,<- Array.getElem?_toList];simp only;rw[sb _ _ _ _ (by rw[OM];exact aae)];unfold jy at cK;rw[sb _ _ _ _ (by omega)]at cK;split at cK
      .rename_i ax;rw[if_pos (by rw[bQ];exact ax)];rw[List.getElem?_take]at cK;split at cK
       .rename_i YJ;obtain⟨v,hv,bq⟩:=gk _ _ el c cK hk;rw[Nat.mul_one,Nat.add_zero]at hv;exact⟨v,by rw[List.getElem?_take,if_pos YJ];exact hv,bq.ev ev⟩
       .cases cK
      .rename_i tO;rw[if_neg (by rw[bQ];exact tO)];obtain⟨v,hv,bq⟩:=hr i 0 el c cK hk;rw[Nat.mul_one,Nat.add_zero]at hv;exact⟨v,by rw[Array.getElem?_toList];exact hv,bq.ev ev⟩
   refine⟨_,_,_,rfl,ax,?_,aD⟩;rw[bQ];exact .d (.v _)
theorem Ma (hg:Good P T) (hi:In w X G μ N a σ) {t t' ty e:TypeId} {tt te:TI} (b4:T t=some tt) (b5:tt.desc = .slice e) (bI:T e=some te) {k:Option Bool} {news:List (List D)} {u v:Value}
  (hu:RV w X μ u (.d (.sl k []))) (hn:l4 w X μ te.size v news) :
  iy Mv X G N w μ a ((Builtin.copy_ #[t,t'] ty #[u,v]).run P w) (.d (.v (.int .i64 0))) σ:=by
 have ht:=(hg t tt b4).1;rw[b5]at ht;obtain⟨oU,i0,gY,Zm,hb0,ik,_⟩:=hg e te bI
 have qi:∃ ad c,u = .slice ad 0 c:=by
  rcases hu.data.lh with⟨rfl,_⟩ | ⟨ad,cap,rfl,_⟩
  .exact⟨_,_,rfl⟩
  .exact⟨_,_,rfl⟩
 have hv:∃ ad m c,v = .slice ad m c:=by
  rcases hn.at_ with⟨_,ad,c,rfl⟩ | ⟨ad,c,dI,rfl,_⟩
  .exact⟨_,_,_,rfl⟩
  .exact⟨_,_,_,rfl⟩
 obtain⟨DI,c1,rfl⟩:=qi;obtain⟨ad,m,c,rfl⟩:=hv
 have bt:(Builtin.copy_ #[t,t'] ty #[.slice DI 0 c1,.slice ad m c]).run P w = .ok (goInt 0) w:=by
  have hl:∀ (x:Addr),(loadCells x 0).run P w = .ok #[] w:=fun x=>by simpa using run_loadCells_list (P:=P) w x [] (by simp)
  have A3:Nat.min m 0=0:=Nat.min_zero m;cases ad<;>cases DI<;>simp[Builtin.copy_,run_underlying ht,Builtin.lenOf,Builtin.firstCells,sizeOf,typeInfo,gY,A3,storeCells,hl]
 exact⟨_,w,μ,bt,hi,.d (.v _),Ev.refl ..⟩
end
