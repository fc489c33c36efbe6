/-
  Texts that belong together,in one file: Av8c.
-/
import Derived.Test.YtpboiimemmfkiaaGreatDoorRp5
import Derived.Laws.CopyRow
set_option linter.unusedSectionVars false
set_option linter.unusedSimpArgs false
set_option linter.unusedVariables false
namespace Go.Av
def srcOf (H:Heap):AV→Option (List (List D))
 | .own q off n=>newsOf H (q+1) (.own q off n)
 | v=>newsOf H 0 v
def copyEls (els news:List (List D)) (off n:Nat):List (List D):=els.take off ++ news.take n ++ els.drop (off+(news.take n).length)
section
variable {P:Program} {T:Ty} {Mv X:Nat→Prop} {G:Glob} {N:Fr} {w:World} {μ:Mu} {a:Act} {σ:St}
theorem srcOf_ok (hs:Sim w X μ σ.H) {sz:Nat} {u:Value} {x:AV} {els:List (List D)} (hx:RV w X μ u x) (h:srcOf σ.H x=some els) (hl:∀ el∈els,el.length=sz) (hz:0 < sz) (h1:∀ el∈els,∀ c∈el,D.one c=true):News w X μ sz u els:=by
 unfold srcOf at h
 split at h
 ·exact newsOf_ok hs hx h hl hz h1
 ·exact newsOf_ok hs hx h hl hz h1
theorem copyA_ok (hg:Good P T) (hi:In w X G μ N a σ) {r off n:Nat} {t t' ty e:TypeId} {tt te:TI} (htt:T t=some tt) (hdd:tt.desc = .slice e) (hte:T e=some te) (hsz1:te.size=1) {els news:List (List D)} {u v:Value}
  (hH:σ.H r=some (.sl e 1 els)) (hle:off+n≤els.length) (hpos:0 < els.length) (hu:RV w X μ u (.own r off n)) (hn:News w X μ 1 v news) :
  Does Mv X G N w μ a ((Builtin.copy_ #[t,t'] ty #[u,v]).run P w) (.d (.v (.int .i64 ((news.take n).length:Nat)))) ⟨σ.env,hup σ.H r (.sl e 1 (copyEls els news off n))⟩:=by
 obtain ⟨m,hm,hh⟩:=hu.own_inv
 obtain ⟨m',hm',ok⟩:=hi.sim.rows r _ hH
 rw [hm] at hm'
 obtain rfl:=Option.some.inj hm'
 have ht:=(hg t tt htt).1
 rw [hdd] at ht
 obtain ⟨hund,i0,hii,hs0,hb0,hz0,_⟩:=hg e te hte
 have hsz:(P.info? e).map (·.size)=some 1:=by rw [hii];simp [hs0,hsz1]
 cases ok with
 | nil hb' _=>simp at hpos
 | sl hb hsz' hhp hcs hn' hmx hl hz hr=>
  rename_i b cur
  rcases hh with ⟨hb',_⟩ | ⟨b',hb',rfl,hcap⟩
  ·rw [hb] at hb';cases hb'
  rw [hb] at hb'
  obtain rfl:=Option.some.inj hb'
  rw [hsz'];rw [Nat.mul_one] at hcs ⊢
  by_cases h0:(news.take n)=[]
  ·-- nothing goes over
   have hv:∃ ad c,v = .slice ad news.length c:=by
    rcases hn.at_ with ⟨rfl,ad,c,rfl⟩ | ⟨ad,c,nws,rfl,_⟩
    ·exact ⟨_,_,rfl⟩
    ·exact ⟨_,_,rfl⟩
   obtain ⟨ad,c,rfl⟩:=hv
   have hmin:Nat.min news.length n=0:=by
    have:=congrArg List.length h0
    rw [List.length_take,List.length_nil] at this;rw [Nat.min_comm] at this;exact this
   have hrun:(Builtin.copy_ #[t,t'] ty #[.slice (some ⟨b,off,none⟩) n (m.cap - off),.slice ad news.length c]).run P w = .ok (goInt 0) w:=by
    have hl:∀ (x:Addr),(loadCells x 0).run P w = .ok #[] w:=fun x=>by simpa using run_loadCells_list (P:=P) w x [] (by simp)
    cases ad<;>simp [Builtin.copy_,run_underlying ht,Builtin.lenOf,Builtin.firstCells,sizeOf,typeInfo,hii,hmin,storeCells,hl]
   have he:hup σ.H r (.sl e 1 (copyEls els news off n))=σ.H:=by
    funext q
    by_cases hq:q=r
    ·subst hq;simp [hup,hH,copyEls,h0]
    ·simp [hup,hq]
   refine ⟨_,w,μ,hrun,?_,?_,Ev.refl ..⟩
   ·rw [he];exact hi
   ·rw [h0];exact .d (.v _)
  ·rcases hn.at_ with ⟨rfl,_⟩ | ⟨ad,cap,nws,rfl,hnl,hncell,hn1,hnr⟩
   ·simp at h0
   rw [Nat.mul_one] at hnl
   have hcl:(nws.take n).length=(news.take n).length:=by simp [hnl]
   have hlen:(news.take n).length≤n:=by simp;omega
   have hfit:off+(nws.take n).length≤cur.size:=by omega
   have hrun:=run_copy_row P w t t' ty e b off n (m.cap - off) ad news.length cap cur e (nws.take n) ht hsz hhp (by rw [hcl,List.length_take,Nat.min_comm])
    (fun j v hv=>by
     rw [List.getElem?_take] at hv
     split at hv
     ·exact hncell j v hv
     ·cases hv) hfit (fun v hv=>hn1 v (List.mem_of_mem_take hv))
   rw [hrun]
   obtain ⟨hin,hev⟩:=hi.write (Mv:=Mv) (w':=w.setRow b (cur.toList.take off ++ nws.take n ++ cur.toList.drop (off+(nws.take n).length)).toArray) hm hb (by simp) rfl rfl rfl (fun k hk=>setRow_other w b k _ hk)
    (row:=.sl e 1 (copyEls els news off n)) fun ev=>by
     have hcsz:cur.toList.length=cur.size:=by simp
     have hcopy:(copyEls els news off n).length=els.length:=by unfold copyEls;simp only [List.length_append,List.length_take,List.length_drop];omega
     refine .sl hb hsz' (setRow_heap w b cur _ e _ hhp) ?_ (by rw [hcopy];exact hn') hmx ?_ hz ?_
     ·simp only [List.size_toArray,List.length_append,List.length_take,List.length_drop,Array.length_toList] at hcl hlen hfit ⊢
      omega
     ·intro el hel
      unfold copyEls at hel
      rcases List.mem_append.1 hel with h | h
      ·rcases List.mem_append.1 h with h | h
       ·exact hl el (List.mem_of_mem_take h)
       ·exact hn.len el (List.mem_of_mem_take h)
      ·exact hl el (List.mem_of_mem_drop h)
     ·intro i k el c hi' hk
      have hel1:el.length=1:=by
       have hel:=List.mem_of_getElem? hi'
       unfold copyEls at hel
       rcases List.mem_append.1 hel with h | h
       ·rcases List.mem_append.1 h with h | h
        ·exact hl el (List.mem_of_mem_take h)
        ·exact hn.len el (List.mem_of_mem_take h)
       ·exact hl el (List.mem_of_mem_drop h)
      have hk0:k=0:=by have:=(List.getElem?_eq_some_iff.1 hk).1;omega
      subst hk0;rw [Nat.mul_one,Nat.add_zero,← Array.getElem?_toList];simp only;rw [splice_get _ _ _ _ (by rw [hcsz];exact hfit)];unfold copyEls at hi';rw [splice_get _ _ _ _ (by omega)] at hi'
      split at hi'
      ·rename_i hin
       rw [if_pos (by rw [hcl];exact hin)];rw [List.getElem?_take] at hi'
       split at hi'
       ·rename_i hlt
        obtain ⟨v,hv,hrd⟩:=hnr _ _ el c hi' hk
        rw [Nat.mul_one,Nat.add_zero] at hv;exact ⟨v,by rw [List.getElem?_take,if_pos hlt];exact hv,hrd.ev ev⟩
       ·cases hi'
      ·rename_i hout
       rw [if_neg (by rw [hcl];exact hout)]
       obtain ⟨v,hv,hrd⟩:=hr i 0 el c hi' hk
       rw [Nat.mul_one,Nat.add_zero] at hv;exact ⟨v,by rw [Array.getElem?_toList];exact hv,hrd.ev ev⟩
   refine ⟨_,_,_,rfl,hin,?_,hev⟩;rw [hcl];exact .d (.v _)
theorem copyN_ok (hg:Good P T) (hi:In w X G μ N a σ) {t t' ty e:TypeId} {tt te:TI} (htt:T t=some tt) (hdd:tt.desc = .slice e) (hte:T e=some te) {k:Option Bool} {news:List (List D)} {u v:Value}
  (hu:RV w X μ u (.d (.sl k []))) (hn:News w X μ te.size v news) :
  Does Mv X G N w μ a ((Builtin.copy_ #[t,t'] ty #[u,v]).run P w) (.d (.v (.int .i64 0))) σ:=by
 have ht:=(hg t tt htt).1
 rw [hdd] at ht
 obtain ⟨hund,i0,hii,hs0,hb0,hz0,_⟩:=hg e te hte
 have hu2:∃ ad c,u = .slice ad 0 c:=by
  rcases hu.data.sl_inv with ⟨rfl,_⟩ | ⟨ad,cap,rfl,_⟩
  ·exact ⟨_,_,rfl⟩
  ·exact ⟨_,_,rfl⟩
 have hv:∃ ad m c,v = .slice ad m c:=by
  rcases hn.at_ with ⟨_,ad,c,rfl⟩ | ⟨ad,c,nws,rfl,_⟩
  ·exact ⟨_,_,_,rfl⟩
  ·exact ⟨_,_,_,rfl⟩
 obtain ⟨ad1,c1,rfl⟩:=hu2
 obtain ⟨ad,m,c,rfl⟩:=hv
 have hrun:(Builtin.copy_ #[t,t'] ty #[.slice ad1 0 c1,.slice ad m c]).run P w = .ok (goInt 0) w:=by
  have hl:∀ (x:Addr),(loadCells x 0).run P w = .ok #[] w:=fun x=>by simpa using run_loadCells_list (P:=P) w x [] (by simp)
  have hmin:Nat.min m 0=0:=Nat.min_zero m
  cases ad<;>cases ad1<;>simp [Builtin.copy_,run_underlying ht,Builtin.lenOf,Builtin.firstCells,sizeOf,typeInfo,hii,hmin,storeCells,hl]
 exact ⟨_,w,μ,hrun,hi,.d (.v _),Ev.refl ..⟩
end
end Go.Av
