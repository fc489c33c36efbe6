/-
  Texts that belong together,in one file: Av8c.
-/
import Derived.Test.YtdigkhaofjmgkaaGreatDoorMk5
import Derived.Laws.CopyRow
set_option linter.unusedSectionVars false
set_option linter.unusedSimpArgs false
set_option linter.unusedVariables false
namespace Go.Av
def w5 (H:Heap):AV->Option (List (List D))
 | .own q off n=>ji H (q+1) (.own q off n)
 | v=>ji H 0 v
def k9 (els news:List (List D)) (off n:Nat):List (List D):=els.take off ++ news.take n ++ els.drop (off+(news.take n).length)
section
variable {P:Program} {T:Ty} {Mv X:Nat->Prop} {G:ao} {N:Fr} {w:World} {μ:Mu} {a:Act} {σ:St}
theorem KH (hs:cK w X μ σ.H) {sz:Nat} {u:Value} {x:AV} {els:List (List D)} (hx:RV w X μ u x) (h:w5 σ.H x=some els) (hl:∀ el∈els,el.length=sz) (hz:0 < sz) (h1:∀ el∈els,∀ c∈el,D.one c=true):nU w X μ sz u els:=by
 unfold w5 at h;split at h
 .exact zn hs hx h hl hz h1
 .exact zn hs hx h hl hz h1
theorem Nd (hg:Good P T) (hi:In w X G μ N a σ) {r off n:Nat} {t t' ty e:TypeId} {tt te:TI} (htt:T t=some tt) (cE:tt.desc = .slice e) (b9:T e=some te) (CZ:te.size=1) {els news:List (List D)} {u v:Value}
  (hH:σ.H r=some (.sl e 1 els)) (hle:off+n<=els.length) (yJ:0 < els.length) (hu:RV w X μ u (.own r off n)) (hn:nU w X μ 1 v news) :
  ka Mv X G N w μ a ((Builtin.copy_ #[t,t'] ty #[u,v]).run P w) (.d (.v (.int .i64 ((news.take n).length:Nat)))) ⟨σ.env,aJ σ.H r (.sl e 1 (k9 els news off n))⟩:=by
 obtain ⟨m,hm,hh⟩:=hu.iK;obtain ⟨m',bO,ok⟩:=hi.aS.rows r _ hH;rw [hm] at bO;obtain rfl:=Option.some.inj bO;have ht:=(hg t tt htt).1;rw [cE] at ht;obtain ⟨adE,i0,jc,hs0,hb0,j0,_⟩:=hg e te b9
 have aI:(P.info? e).map (·.size)=some 1:=by rw [jc];simp [hs0,CZ]
 cases ok with
 | nil aO _=>simp at yJ
 | sl hb pK ni bW hn' eX hl hz hr=>
  rename_i b cur
  rcases hh with ⟨aO,_⟩ | ⟨b',aO,rfl,ab6⟩
  .rw [hb] at aO;cases aO
  rw [hb] at aO;obtain rfl:=Option.some.inj aO;rw [pK];rw [Nat.mul_one] at bW ⊢;by_cases h0:(news.take n)=[]
  .-- nothing goes over
   have hv:∃ ad c,v = .slice ad news.length c:=by
    rcases hn.at_ with ⟨rfl,ad,c,rfl⟩ | ⟨ad,c,nws,rfl,_⟩
    .exact ⟨_,_,rfl⟩
    .exact ⟨_,_,rfl⟩
   obtain ⟨ad,c,rfl⟩:=hv
   have CF:Nat.min news.length n=0:=by
    have:=congrArg List.length h0;rw [List.length_take,List.length_nil] at this;rw [Nat.min_comm] at this;exact this
   have bK:(Builtin.copy_ #[t,t'] ty #[.slice (some ⟨b,off,none⟩) n (m.cap - off),.slice ad news.length c]).run P w = .ok (goInt 0) w:=by
    have hl:∀ (x:Addr),(loadCells x 0).run P w = .ok #[] w:=fun x=>by simpa using run_loadCells_list (P:=P) w x [] (by simp)
    cases ad<;>simp [Builtin.copy_,run_underlying ht,Builtin.lenOf,Builtin.firstCells,sizeOf,typeInfo,jc,CF,storeCells,hl]
   have he:aJ σ.H r (.sl e 1 (k9 els news off n))=σ.H:=by
    funext q;by_cases hq:q=r
    .subst hq;simp [aJ,hH,k9,h0]
    .simp [aJ,hq]
   refine ⟨_,w,μ,bK,?_,?_,Ev.refl ..⟩
   .rw [he];exact hi
   .rw [h0];exact .d (.v _)
  .rcases hn.at_ with ⟨rfl,_⟩ | ⟨ad,cap,nws,rfl,eg,vK,vJ,hnr⟩
   .simp at h0
   rw [Nat.mul_one] at eg
   have hcl:(nws.take n).length=(news.take n).length:=by simp [eg]
   have hlen:(news.take n).length<=n:=by simp;omega
   have ic:off+(nws.take n).length<=cur.size:=by omega
   have bK:=run_copy_row P w t t' ty e b off n (m.cap - off) ad news.length cap cur e (nws.take n) ht aI ni (by rw [hcl,List.length_take,Nat.min_comm])
    (fun j v hv=>by
     rw [List.getElem?_take] at hv;split at hv
     .exact vK j v hv
     .cases hv) ic (fun v hv=>vJ v (List.mem_of_mem_take hv))
   rw [bK]
   obtain ⟨aC,aG⟩:=hi.write (Mv:=Mv) (w':=w.setRow b (cur.toList.take off ++ nws.take n ++ cur.toList.drop (off+(nws.take n).length)).toArray) hm hb (by simp) rfl rfl rfl (fun k hk=>setRow_other w b k _ hk)
    (row:=.sl e 1 (k9 els news off n)) fun ev=>by
     have PH:cur.toList.length=cur.size:=by simp
     have PC:(k9 els news off n).length=els.length:=by unfold k9;simp only [List.length_append,List.length_take,List.length_drop];omega
     refine .sl hb pK (setRow_heap w b cur _ e _ ni) ?_ (by rw [PC];exact hn') eX ?_ hz ?_
     .simp only [List.size_toArray,List.length_append,List.length_take,List.length_drop,Array.length_toList] at hcl hlen ic ⊢;omega
     .intro el ba;unfold k9 at ba
      rcases List.mem_append.1 ba with h | h
      .rcases List.mem_append.1 h with h | h
       .exact hl el (List.mem_of_mem_take h)
       .exact hn.len el (List.mem_of_mem_take h)
      .exact hl el (List.mem_of_mem_drop h)
     .intro i k el c da hk
      have Yv:el.length=1:=by
       have ba:=List.mem_of_getElem? da;unfold k9 at ba
       rcases List.mem_append.1 ba with h | h
       .rcases List.mem_append.1 h with h | h
        .exact hl el (List.mem_of_mem_take h)
        .exact hn.len el (List.mem_of_mem_take h)
       .exact hl el (List.mem_of_mem_drop h)
      have hk0:k=0:=by have:=(List.getElem?_eq_some_iff.1 hk).1;omega
      subst hk0;rw [Nat.mul_one,Nat.add_zero,<- Array.getElem?_toList];simp only;rw [tZ _ _ _ _ (by rw [PH];exact ic)];unfold k9 at da;rw [tZ _ _ _ _ (by omega)] at da;split at da
      .rename_i aC;rw [if_pos (by rw [hcl];exact aC)];rw [List.getElem?_take] at da;split at da
       .rename_i ax;obtain ⟨v,hv,bz⟩:=hnr _ _ el c da hk;rw [Nat.mul_one,Nat.add_zero] at hv;exact ⟨v,by rw [List.getElem?_take,if_pos ax];exact hv,bz.ev ev⟩
       .cases da
      .rename_i acY;rw [if_neg (by rw [hcl];exact acY)];obtain ⟨v,hv,bz⟩:=hr i 0 el c da hk;rw [Nat.mul_one,Nat.add_zero] at hv;exact ⟨v,by rw [Array.getElem?_toList];exact hv,bz.ev ev⟩
   refine ⟨_,_,_,rfl,aC,?_,aG⟩;rw [hcl];exact .d (.v _)
theorem Nf (hg:Good P T) (hi:In w X G μ N a σ) {t t' ty e:TypeId} {tt te:TI} (htt:T t=some tt) (cE:tt.desc = .slice e) (b9:T e=some te) {k:Option Bool} {news:List (List D)} {u v:Value}
  (hu:RV w X μ u (.d (.sl k []))) (hn:nU w X μ te.size v news) :
  ka Mv X G N w μ a ((Builtin.copy_ #[t,t'] ty #[u,v]).run P w) (.d (.v (.int .i64 0))) σ:=by
 have ht:=(hg t tt htt).1;rw [cE] at ht;obtain ⟨adE,i0,jc,hs0,hb0,j0,_⟩:=hg e te b9
 have rj:∃ ad c,u = .slice ad 0 c:=by
  rcases hu.data.l8 with ⟨rfl,_⟩ | ⟨ad,cap,rfl,_⟩
  .exact ⟨_,_,rfl⟩
  .exact ⟨_,_,rfl⟩
 have hv:∃ ad m c,v = .slice ad m c:=by
  rcases hn.at_ with ⟨_,ad,c,rfl⟩ | ⟨ad,c,nws,rfl,_⟩
  .exact ⟨_,_,_,rfl⟩
  .exact ⟨_,_,_,rfl⟩
 obtain ⟨Fp,c1,rfl⟩:=rj;obtain ⟨ad,m,c,rfl⟩:=hv
 have bK:(Builtin.copy_ #[t,t'] ty #[.slice Fp 0 c1,.slice ad m c]).run P w = .ok (goInt 0) w:=by
  have hl:∀ (x:Addr),(loadCells x 0).run P w = .ok #[] w:=fun x=>by simpa using run_loadCells_list (P:=P) w x [] (by simp)
  have CF:Nat.min m 0=0:=Nat.min_zero m;cases ad<;>cases Fp<;>simp [Builtin.copy_,run_underlying ht,Builtin.lenOf,Builtin.firstCells,sizeOf,typeInfo,jc,CF,storeCells,hl]
 exact ⟨_,w,μ,bK,hi,.d (.v _),Ev.refl ..⟩
end
end Go.Av
