/- Parts. -/
import Derived.Test.YtoohljflflnbeaaGreatDoorSt10
import Derived.RangeFuncSeq
set_option linter.unusedSectionVars false
set_option linter.unusedSimpArgs false
set_option linter.unusedVariables false
set_option maxHeartbeats 1000000
namespace Go.Av
def mark (d:Nat):Deferred:={ target:=.collected d,args:=#[] }
structure Marks (s:Nat) (w:World) (ds:List Nat):Prop where
 nodup:ds.Nodup
 new:∀ d∈ds,s<=d
 wY:∀ d∈ds,w.heap[d]? = some (.deferred (some []))
def XD (X:Nat->Prop) (ds:List Nat) (b:Nat):Prop:=X b\/b∈ds
structure pn (l:Nat) (Mv:Nat->Prop) (w:World) (μ:Mu) (w':World) (aK:Mu):Prop where
 size:w.heap.size<=w'.heap.size
 os:w'.os=w.os
 tape:w'.tape=w.tape
 output:w'.output=w.output
 same:∀ b,b < w.heap.size->b≠l->¬ gH μ b->w'.heap[b]? = w.heap[b]?/\¬ gH aK b
 kept:∀ r m,μ r=some m->¬ Mv r->aK r=some m
theorem Ev.but {Mv:Nat->Prop} {w w':World} {μ aK:Mu} (h:Ev Mv w μ w' aK) (l:Nat):pn l Mv w μ w' aK:=⟨h.size,h.os,h.tape,h.output,fun b hb _ hr=>h.same b hb hr,h.kept⟩
theorem pn.trans {l:Nat} {Mv:Nat->Prop} {w w1 w2:World} {μ ku il:Mu} (h:pn l Mv w μ w1 ku) (h':pn l Mv w1 ku w2 il):pn l Mv w μ w2 il:=
 ⟨acb h.size h'.size,h'.os.trans h.os,h'.tape.trans h.tape,h'.output.trans h.output,fun b hb hl hr=>
  have h1:=h.same b hb hl hr;have h2:=h'.same b (abu hb h.size) hl h1.2
  ⟨h2.1.trans h1.1,h2.2⟩,fun r m hm hn=>h'.kept r m (h.kept r m hm hn) hn⟩
theorem pn.put (Mv:Nat->Prop) (w:World) (μ:Mu) (l:Nat) (o:Obj):pn l Mv w μ (w.putObj l o) μ:=
 ⟨al,rfl,rfl,rfl,fun b _ hl hr=>⟨World.putObj_heap_other hl,hr⟩,fun _ _ h _=>h⟩
theorem pn.ev {l:Nat} {Mv:Nat->Prop} {w w':World} {μ aK:Mu} (h:pn l Mv w μ w' aK) (hl:w.heap.size<=l):Ev Mv w μ w' aK:=
 ⟨h.size,h.os,h.tape,h.output,fun b hb hr=>h.same b hb aa hr,h.kept⟩
section
variable {P:Program} {T:Ty} {Mv X:Nat->Prop} {G:aF} {N:Fr} {w w':World} {μ:Mu} {a:Act} {σ:St}
theorem In.turn {N':Fr} {X':Nat->Prop} {a':Act} (hi:In w X G μ N a σ) (hX:∀ b,X' b->X b\/(w.heap.size<=b/\b < w'.heap.size)) (pM:∀ b,b < w.heap.size->¬ X b->w'.heap[b]? = w.heap[b]?) (bc:w.heap.size<=w'.heap.size)
  (hd:a'.defers=N'.ds) (hn:N'.n=N.n) (ht:a'.tmps=a.tmps):In w' X' G μ N' a' σ:=by
 have hD:∀ u d,RD w (XX X μ) u d->RD w' (XX X' μ) u d:=fun u d h=>h.mono bc fun b hb bp=>
  ⟨pM b hb fun e=>bp (.inl e),fun e=>bp (e.elim (fun e=>(hX b e).elim .inl fun ⟨h,_⟩=>absurd hb (Nat.not_lt.2 h)) .inr)⟩
 refine⟨⟨fun r row hr=>?_,hi.bo.j6,hi.bo.inj,fun r m b hr hb hx=>?_,fun b hb=>?_⟩,⟨hd,by rw[ht,hn];exact hi.env.size,fun i x hx=>?_⟩,fun g x hx=>hD _ _ (hi.iu g x hx)⟩
 .obtain⟨m,hm,ok⟩:=hi.bo.rows r row hr;exact⟨m,hm,ok.lift (fun b hb=>pM b (ok.lB hb) (hi.bo.frame r m b hm hb)) hD fun _ _ h=>h⟩
 .have bf:=hi.bo.lB ⟨r,m,hr,hb⟩;exact (hX b hx).elim (hi.bo.frame r m b hr hb) fun ⟨h,_⟩=>absurd bf (Nat.not_lt.2 h)
 .exact (hX b hb).elim (fun h=>abu (hi.bo.fits b h) bc) (·.2)
 .obtain⟨u,hu,hr⟩:=hi.env.slot i x hx;exact⟨u,by rw[ht];exact hu,hr.lift hD fun _ _ h=>h⟩
theorem Marks.ev {s:Nat} {ds:List Nat} {H:Heap} {aK:Mu} (hm:Marks s w ds) (hs:eu w (XD X ds) μ H) (ev:Ev Mv w μ w' aK):Marks s w' ds:=
 ⟨hm.nodup,hm.new,fun d hd=>(ev.same d (aa1.1 (hm.wY d hd)).1 fun ⟨r,m,hr,hb⟩=>hs.frame r m d hr hb (.inr hd)).1.trans (hm.wY d hd)⟩
def HL (Mv X:Nat->Prop) (G:aF) (n s:Nat) (w:World) (μ:Mu) (Q:Exit->St->Prop) (e:Exit) (a':Act) (w':World):Prop:=
 ∃ ds aK aP,Q e aP/\Marks s w' ds/\In w' (XD X ds) G aK ⟨n,ds.map mark,none⟩ a' aP/\Ev Mv w μ w' aK
def ff (P:Program) (Mv X:Nat->Prop) (G:aF) (n s:Nat) (c:Code) (Q:Exit->St->Prop) (σ:St):Prop:=
 ∀ ds w μ a,s<=w.heap.size->Marks s w ds->In w (XD X ds) G μ ⟨n,ds.map mark,none⟩ a σ->c.wpIn (wd none) 0 P (HL Mv X G n s w μ Q) a w
theorem zU {n s:Nat} {c:Code} {Q:Exit->St->Prop} (h:∀ X' ds,AW P Mv X' G ⟨n,ds,none⟩ c Q σ):ff P Mv X G n s c Q σ:=fun ds w μ a hs hm hi=>
 wpIn_mono (h (XD X ds) _ w μ a hi) fun e a' w' ⟨aK,aP,q,i,ev⟩=>⟨ds,aK,aP,q,hm.ev hi.bo ev,i,ev⟩
theorem ff.imp {n s:Nat} {c:Code} {Q:Exit->St->Prop} {τ:St} (hi:∀ X' ds,aY Mv X' G ⟨n,ds,none⟩ σ τ) (h:ff P Mv X G n s c Q τ):ff P Mv X G n s c Q σ:=fun ds w μ a hs hm bn=>by
 obtain⟨ku,h1,e1⟩:=hi (XD X ds) _ w μ a bn;exact wpIn_mono (h ds w ku a hs hm h1) fun e a' w' ⟨gl,aK,aP,q,m,i,ev⟩=>⟨gl,aK,aP,q,m,i,e1.trans ev⟩
theorem zV {n s:Nat} {x y:Code} {Q:Exit->St->Prop} (h:ff P Mv X G n s x (bY (ff P Mv X G n s y Q) Q) σ):ff P Mv X G n s (.seq x y) Q σ:=fun ds w μ a hs hm hi=>
 wpIn_seq (wpIn_mono (h ds w μ a hs hm hi) fun e a' w' ⟨gl,aK,aP,q,m,i,ev⟩=>by
  cases e with
  | normal=>exact wpIn_mono (q gl w' aK a' (acb hs ev.size) m i) fun e2 a2 w2 ⟨PJ,il,gV,q2,m2,i2,ue⟩=>⟨PJ,il,gV,q2,m2,i2,ev.trans ue⟩
  | _=>exact⟨gl,aK,aP,q,m,i,ev⟩)
theorem NL {n s id:Nat} {c:Code} {Q:Exit->St->Prop} (h:ff P Mv X G n s c (b9 id Q) σ):ff P Mv X G n s (.block id c) Q σ:=fun ds w μ a hs hm hi=>
 wpIn_block (wpIn_mono (h ds w μ a hs hm hi) fun e a' w' ⟨gl,aK,aP,q,m,i,ev⟩=>by
  cases e with
  | exit BG=>
   simp only[b9]at q;simp only[Exit.inBlock];split
   .rename_i he;rw[if_pos he]at q;exact⟨gl,aK,aP,q,m,i,ev⟩
   .rename_i he;rw[if_neg he]at q;exact⟨gl,aK,aP,q,m,i,ev⟩
  | _=>exact⟨gl,aK,aP,q,m,i,ev⟩)
theorem Ui {fn:Func} {tmps:Array Value} {R:Ending->World->Prop}:∀ (ds:List Nat) (w:World),ds.Nodup->(∀ d∈ds,w.heap[d]? = some (.deferred (some [])))->
  (∀ w',w'.heap.size=w.heap.size->w'.os=w.os->w'.tape=w.tape->w'.output=w.output->(∀ b,b ∉ ds->w'.heap[b]? = w.heap[b]?)->∃ v,(results fn tmps).run P w' = .ok v w'/\R (.returned v) w')->
  LeavesInM (wd none) 0 P fn tmps R (ds.map mark) .returning w:=by
 intro ds
 induction ds with
 | nil=>
  intro w _ _ h;obtain⟨v,hv,hR⟩:=h w rfl rfl rfl rfl fun _ _=>rfl;show LeavesIn (wd none) 0 P fn tmps R [] .returning w;exact⟨v,hv,hR⟩
 | cons d ds ih=>
  intro w hn ho h;obtain⟨hd,hn⟩:=acx.1 hn;refine⟨al,.inl ⟨d,w.putObj d (.deferred none),rfl,run_takeDeferred (ho d al),ih _ hn (fun e he=>?_) fun w' h1 h2 h3 h4 h5=>?_⟩⟩
  .rw[World.putObj_heap_other (fun e':e=d=>hd (by rw[<- e'];exact he))];exact ho e (by simp[he])
  .refine h w' (by simpa using h1) h2 h3 h4 fun b hb=>?_;rw[h5 b (fun e=>hb (by simp[e])),World.putObj_heap_other (fun e=>hb (by simp[e]))]
theorem In.shut {n:Nat} {ds:List Nat} (hi:In w (XD X ds) G μ ⟨n,ds.map mark,none⟩ a σ) (h1:w'.heap.size=w.heap.size) (h5:∀ b,b ∉ ds->w'.heap[b]? = w.heap[b]?):In w' X G μ ⟨n,[],none⟩ { a with defers:=[] } σ:=
 hi.turn (fun b hb=>.inl (.inl hb)) (fun b _ hb=>h5 b fun e=>hb (.inr e)) aa rfl rfl rfl
theorem Ev.shut {s:Nat} {w0:World} {mn:Mu} {ds:List Nat} (h:Ev Mv w0 mn w μ) (hm:Marks s w ds) (hs:w0.heap.size<=s) (h1:w'.heap.size=w.heap.size) (h2:w'.os=w.os) (h3:w'.tape=w.tape) (h4:w'.output=w.output) (h5:∀ b,b ∉ ds->w'.heap[b]? = w.heap[b]?):Ev Mv w0 mn w' μ:=
 ⟨by have:=h.size;omega,h2.trans h.os,h3.trans h.tape,h4.trans h.output,fun b hb hr=>by
  have h6:=h.same b hb hr
  exact⟨(h5 b fun e=>by have:=hm.new b e;omega).trans h6.1,h6.2⟩,h.kept⟩
theorem aH.Vc (hg:Good P T) {g:FuncId} {fn:Func} {c:Code} {rs:List ResultVar} {ds:List D} {y:D} (hf:P.funcs[g]? = some fn) (hb:fn.body=some c) (hn:(fn.name == "runtime.NumGoroutine")=false) (jW:fn.results=rs.toArray)
  (hN:ds.length<=fn.ntmps) (h:∀ X s,ff P (fun _=>True) X G fn.ntmps s c (Dm T rs y) ⟨args (ds.map .d),eQ⟩):aH P G g ds y:=by
 refine⟨fU.of hf hb hn,fun X w μ vs hs cY bc hv=>?_⟩
 refine (callsIn_wide (n:=0)).1 (callsIn_of_wp_marks hf hb trivial (wpIn_mono (h X w.heap.size [] w μ _ (aa8 _) ⟨List.nodup_nil,al,al⟩
  (In.turn (X:=X) (N:=⟨fn.ntmps,[],none⟩) (a:={ tmps:=vs ++ Array.replicate (fn.ntmps - vs.size) undef,defers:=[] }) ⟨hs,⟨rfl,by simp;simp at bc;omega,fun i x hx=>?_⟩,cY⟩ (fun b hb=>.inl (hb.elim id al)) (fun _ _ _=>rfl) (aa8 _) rfl rfl rfl)) fun e a' w' ⟨gl,aK,aP,q,hm,i,ev⟩=>?_))
 .simp only[args]at hx;have hi:i < (ds.map AV.d).length:=(By.1 hx).1
  have s3:vs[i]? = some vs[i]:=by rw[abn]
  exact⟨vs[i],by rw[abM aa,s3],hv i _ x s3 hx⟩
 .have fin:vJ T rs y aP->LeavesInM (wd none) 0 P fn a'.tmps (fun e w'=>∃ v x H' aK,e = .returned v/\(x = .d y/\H'=eQ)/\RV w' X aK v x/\eu w' X aK H'/\Ev (fun _=>True) w μ w' aK) a'.defers .returning w':=fun he=>by
   rw[i.env.defers];refine Ui gl w' hm.nodup hm.wY fun w2 h1 h2 h3 h4 h5=>?_;have hi:=i.shut h1 h5;have br:=ev.shut hm (aa8 _) h1 h2 h3 h4 h5;unfold vJ at he;split at he
   .rename_i c xs hx;obtain⟨hc,he⟩:=he;split at he
    .rename_i y' hy;obtain⟨v,hv,hr⟩:=GP (P:=P) hg hi jW hx hc;have cm:=(Dk hi.bo 6 hy hr).le he;refine⟨v,hv,v,.d y,eQ,fun _=>none,rfl,⟨rfl,rfl⟩,.d (cm.sub fun b=>nj.1),eu.none hi.bo.fits,br.size,br.os,br.tape,br.output,fun b hb hr=>⟨(br.same b hb hr).1,fun ⟨_,_,h,_⟩=>by cases h⟩,fun r m _ hn=>absurd trivial hn⟩
    .exact he.elim
   .exact he.elim
  cases e with
  | normal=>exact fin q
  | ret=>exact fin q
  | _=>exact q.elim
structure Grown (B:Nat->Prop) (w w':World):Prop where
 size:w.heap.size<=w'.heap.size
 os:w'.os=w.os
 tape:w'.tape=w.tape
 output:w'.output=w.output
 same:∀ b,b < w.heap.size->¬ B b->w'.heap[b]? = w.heap[b]?
structure Kept (B:Nat->Prop) (w w':World):Prop where
 size:w.heap.size<=w'.heap.size
 same:∀ b,B b->w'.heap[b]? = w.heap[b]?
def GB (G:aF) (b:Nat):Prop:=∃ x,G b=some x/\((∃ l,x = .ip l)\/∃ cs,x = .nW cs)
theorem C4 {G:aF} {w:World} {X:Nat->Prop} (cY:∀ g x,G g=some x->RD w X (.pointer (some ⟨g,0,none⟩)) x) {b:Nat} (h:GB G b):¬ X b/\b < w.heap.size:=by
 obtain⟨x,hx,h | h⟩:=h
 .obtain⟨l,rfl⟩:=h;have h1:=cY _ _ hx;generalize hy:D.ip l=y at h1;generalize hv:Value.pointer (some ⟨b,0,none⟩)=v at h1;cases h1<;>cases hy;rename_i hX hb _ _;injection hv with hv;injection hv with hv;injection hv with hv;subst hv;exact⟨hX,hb⟩
 .obtain⟨cs,rfl⟩:=h;have h1:=cY _ _ hx;generalize hy:D.nW cs=y at h1;generalize hv:Value.pointer (some ⟨b,0,none⟩)=v at h1;cases h1<;>cases hy;rename_i hX hb;injection hv with hv;injection hv with hv;injection hv with hv;subst hv;exact⟨hX,(aa1.1 hb).1⟩
def HN (P:Program) (gf:FuncId) (lb:Array Value) (B C:Nat->Prop) (xs:List Value) (w0:World):Prop:=
 ∀ (l:Nat) (J:Nat->World->Prop) (Jx:World->Prop),(∀ k W W',J k W->Grown B W W'->J k W')->(∀ W W',Jx W->Grown B W W'->Jx W')->
  (∀ k (hk:k < xs.length) W,J k W->YieldAt (wd none) 0 P l #[xs[k]] W fun e W'=>(e = .returned (.bool true)/\J (k+1) W'/\Kept C W W')\/(e = .returned (.bool false)/\Jx W'))->
  ∀ w1,Kept C w0 w1->J 0 w1->Calls P gf (#[.func (.yield l) #[] #[]] ++ lb) w1 fun e W'=>(∃ v,e = .returned v)/\(J xs.length W'\/Jx W')
def nK (it:List Nat) (q:Nat):Bool:=!it.contains q
def u2 (it:List Nat) (q off n:Nat):AV:=if it.contains q then .dead else .own q off n
def tl (it:List Nat) (q e j:Nat):AV:=if it.contains q then .dead else .ref q e j
theorem In.rest {e0:Env} {H0:Heap} (it:List Nat) (hi:In w X G μ N a ⟨e0,H0⟩):In w (XX X (cE it.contains μ)) G (cE (nK it) μ) N a ⟨fun i=>(e0 i).map (AV.tr (u2 it) (tl it)),fM (nK it) (u2 it) (tl it) H0⟩:=by
 have vU:∀ b,XX (XX X (cE it.contains μ)) (cE (nK it) μ) b->XX X μ b:=fun b hb=>hb.elim (fun hb=>hb.elim .inl fun h=>.inr (qJ h)) fun h=>.inr (qJ h);have hD:∀ u d,RD w (XX X μ) u d->RD w (XX (XX X (cE it.contains μ)) (cE (nK it) μ)) u d:=fun u d h=>h.sub vU
 have hm:∀ q m,it.contains q=false->μ q=some m->cE (nK it) μ q=some m:=fun q m hk h=>by simp only[cE,nK,hk,ab8,if_true];exact h
 have hV:∀ u x,RV w X μ u x->RV w (XX X (cE it.contains μ)) (cE (nK it) μ) u (x.tr (u2 it) (tl it)):=fun u x=>RV.vk hD (fun u r off n h=>by
   unfold u2;split
   .exact .dead u
   .rename_i hk;obtain⟨m,h1,h2⟩:=h.lp
    exact .own (hm r m (by simpa using hk) h1) h2) (fun u r e j h=>by
   unfold tl;split
   .exact .dead u
   .rename_i hk;obtain⟨m,b,h1,h2,rfl⟩:=h.jd
    exact .ref (hm r m (by simpa using hk) h1) h2)
 refine⟨⟨fun r row hr=>?_,fun r m hr=>?_,fun q q' m1 m2 b h1 h2 fi eV=>hi.bo.inj q q' m1 m2 b (ja h1).2 (ja h2).2 fi eV,fun q m b hq hb hX=>?_,fun b hb=>hb.elim (hi.bo.fits b) fun h=>hi.bo.lB (qJ h)⟩,⟨hi.env.defers,hi.env.size,fun i x hx=>?_⟩,fun g x hx=>hD _ _ (hi.iu g x hx)⟩
 .dsimp only[fM]at hr;split at hr
  .rename_i hk;obtain⟨nc,h0,rfl⟩:=AS.1 hr;obtain⟨m,h1,ok⟩:=hi.bo.rows r nc h0;exact⟨m,hm r m (by simpa[nK]using hk) h1,ok.vk (fun _ _=>rfl) hD hV⟩
  .cases hr
 .obtain⟨hk,h1⟩:=ja hr;obtain⟨row,h0⟩:=hi.bo.j6 r m h1;exact⟨row.tr (u2 it) (tl it),by dsimp only[fM];rw[if_pos hk];dsimp only at h0;rw[h0];rfl⟩
 .obtain⟨hk,h1⟩:=ja hq
  rcases hX with h | ⟨q',m',oH,bp⟩
  .exact hi.bo.frame q m b h1 hb h
  .obtain⟨jm,DZ⟩:=ja oH;obtain rfl:=hi.bo.inj q q' m m' b h1 DZ hb bp;simp only[nK,jm,Bool.not_true,abh]at hk
 .obtain⟨y,hy,rfl⟩:=AS.1 hx;obtain⟨u,hu,hr⟩:=hi.env.slot i y hy;exact⟨u,hu,hV u y hr⟩
def zH (fx:List Nat):AV->Prop
 | .d _=>True
 | .ref r _ _=>fx.contains r=true
 | _=>False
def Wm (P:Program) (X:Nat->Prop) (G:aF) (N:Fr) (fx:List Nat) (Q:Exit->St->Prop) (e1:Env) (next:Heap) (nx:Prop):Exit->St->Prop
 | .normal,σ=>nx/\aY (gS fx) X G N σ ⟨fun _=>none,next⟩
 | .ret,σ=>∃ H,aY (gS fx) X G N σ ⟨fun _=>none,H⟩/\Q .ret ⟨e1,H⟩
 | .exit id,σ=>∃ H,aY (gS fx) X G N σ ⟨fun _=>none,H⟩/\Q (.exit id) ⟨e1,H⟩
 | _,_=>False
theorem RV.zH {X X':Nat->Prop} {l:Nat} {μ aK:Mu} {fx:List Nat} {u:Value} {x:AV} (hs:zH fx x) (ev:pn l (gS fx) w μ w' aK) (hl:X l) (hX:∀ b,X' b->X b) (hr:RV w X μ u x):RV w' X' aK u x:=by
 cases x with
 | d x=>exact .d (hr.data.mono ev.size fun b hb bp=>by
   have h:=ev.same b hb (fun e=>bp (.inl (e ▸ hl))) fun e=>bp (.inr e)
   exact⟨h.1,fun e=>e.elim (fun e=>bp (.inl (hX b e))) h.2⟩)
 | ref r e j=>
  obtain⟨m,b,hm,hb,rfl⟩:=hr.jd;exact .ref (ev.kept r m hm (by unfold gS;unfold Av.zH at hs;rw[hs];simp)) hb
 | _=>exact hs.elim
theorem NM {n s:Nat} {g:Operand} {p:Tmp} {assign body:Code} {Q:Exit->St->Prop} {e0:Env} {H0:Heap} {gf:FuncId} {caps:List AV} (xs:List Value) (it fx:List Nat) (e1:Env) (inv:Nat->Heap) (ok:Nat->Prop) (Sw:ok 0)
  (hg:bG G e0 g=some (.fn (.func gf) caps)) (hF:fU P gf) (hp:p < n)
  (hIt:∀ (w:World) (X:Nat->Prop) (μ:Mu) (lb:Array Value),eu w X μ (fM it.contains (fb it) (fa it) H0)->(∀ g x,G g=some x->RD w (XX X μ) (.pointer (some ⟨g,0,none⟩)) x)->lb.size=caps.length->(∀ (i:Nat) (u:Value) (x:AV),lb[i]? = some u->caps[i]? = some x->RV w X μ u (x.tr (fb it) (fa it)))->HN P gf lb (gH μ) (fun b=>gH μ b\/GB G b) xs w)
  (he1:∀ i x,e1 i=some x->zH fx x/\∃ y,e0 i=some y/\y.tr (u2 it) (tl it)=x) (hH:fM (nK it) (u2 it) (tl it) H0=inv 0) (QM:∀ q,gS fx q->Mv q) (hfx:∀ q,fx.contains q=true->it.contains q=false)
  (SP:∀ X' l k (hk:k < xs.length),ok k->AW P (gS fx) X' G ⟨n,[],some l⟩ assign (bY (AW P (gS fx) X' G ⟨n,[],some l⟩ body (Wm P X' G ⟨n,[],some l⟩ fx Q e1 (inv (k+1)) (ok (k+1)))) (fun _ _=>False)) ⟨ik e1 p (.d (.v xs[k])),inv k⟩)
  (Ry:ok xs.length->Q .normal ⟨e1,inv xs.length⟩):ff P Mv X G n s (.rangeFunc g #[p] assign body) Q ⟨e0,H0⟩:=by
 intro ds w μ a wz hm hi
 obtain⟨lb,ny,we,qu⟩:∃ lb:Array Value,a.eval g = .func (.func gf) #[] lb/\lb.size=caps.length/\∀ (i:Nat) (u:Value) (x:AV),lb[i]? = some u->caps[i]? = some x->RV w (XD X ds) μ u x:=by
  have h:=hi.eval hg;generalize a.eval g=v at h ⊢
  cases h with
  | fn hn hr=>exact⟨_,rfl,hn,hr⟩
 have e8:=hi.rest it;obtain⟨Ff,pL⟩:=hi.bo.part it;have hit:=hIt w _ _ lb Ff (fun g x hx=>(hi.iu g x hx).sub fun b=>Da.1) we fun i u x hu hx=>pL (qu i u x hu hx);generalize hB:cE it.contains μ=sk at e8 Ff hit;have Jc:∀ b,gH sk b->gH μ b:=fun b h=>qJ (hB ▸ h);have Ba:∀ b,gH sk b->b < w.heap.size:=fun b h=>hi.bo.lB (Jc b h);rw[hH]at e8
 have pF:In w (XX (XD X ds) sk) G (cE (nK it) μ) ⟨n,ds.map mark,none⟩ a ⟨e1,inv 0⟩:=⟨e8.bo,⟨e8.env.defers,e8.env.size,fun i x hx=>by
  obtain⟨_,y,hy,rfl⟩:=he1 i x hx
  exact e8.env.slot i _ (by dsimp only;rw[hy];rfl)⟩,e8.iu⟩
 clear e8 pL Ff;refine wpIn_rangeFunc fun fn _=>?_;generalize hD:w.heap.size=d at *;obtain⟨rec,uK⟩:∃ rec:LoopState->Option Code->Loop,rec=fun st pe=>{ state:=st,pending:=pe,fn,tmps:=a.tmps,params:=#[p],assign,body,defers:=d }:=⟨_,rfl⟩;obtain⟨W1,x5⟩:∃ W1,(w.alloc (.deferred (some []))).alloc (.loop (rec .ready none))=W1:=⟨_,rfl⟩
 have wH:W1.heap.size=d+2:=by rw[<- x5];simp;omega
 have rH:cT w W1:=by
  rw[<- x5];have h1:=cT.alloc w (.deferred (some []));have h2:=cT.alloc (w.alloc (.deferred (some []))) (.loop (rec .ready none));exact⟨acb h1.size h2.size,h2.os.trans h1.os,h2.tape.trans h1.tape,h2.output.trans h1.output,fun b hb=>(h2.same b (abu hb h1.size)).trans (h1.same b hb)⟩
 have QL:W1.heap[d+1]? = some (.loop (rec .ready none)):=by
  rw[<- x5];have:=World.alloc_heap_new (w.alloc (.deferred (some []))) (.loop (rec .ready none));rwa [World.size_alloc,hD]at this
 have aI:W1.heap[d]? = some (.deferred (some [])):=by
  rw[<- x5,(cT.alloc (w.alloc (.deferred (some []))) (.loop (rec .ready none))).same d (by simp;omega),<- hD];exact World.alloc_heap_new w _
 let X':Nat->Prop:=fun b=>XX (XD X ds) sk b\/b=d\/b=d+1
 have Z0:∀ b,XX (XD X ds) sk b->b < d:=fun b hb=>by have:=pF.bo.fits b hb;omega
 have jB:In W1 X' G (cE (nK it) μ) ⟨n,ds.map mark,none⟩ a ⟨e1,inv 0⟩:=pF.turn (fun b hb=>hb.elim .inl fun hb=>.inr aa) (fun b hb _=>rH.same b hb) rH.size pF.env.defers rfl rfl
 have RH:Ev (gS fx) w μ W1 (cE (nK it) μ):=⟨rH.size,rH.os,rH.tape,rH.output,fun b hb hr=>⟨rH.same b hb,fun h=>hr (qJ h)⟩,fun q m hq hn=>by
  have RL:fx.contains q=true:=by
   cases h:fx.contains q with
   | true=>rfl
   | false=>exact absurd h hn
  simp only[cE,nK,hfx q RL,ab8,if_true];exact hq⟩
 let At (st:LoopState) (pe:Option Code) (H:Heap) (W:World):Prop:=(∃ aK,In W X' G aK ⟨n,ds.map mark,none⟩ a ⟨e1,H⟩/\Ev (gS fx) w μ W aK)/\W.heap[d+1]? = some (.loop (rec st pe))/\W.heap[d]? = some (.deferred (some []))
 have I9:∀ st pe H W W',At st pe H W->Grown (gH sk) W W'->At st pe H W':=by
  rintro st pe H W W' ⟨⟨aK,bn,br⟩,hl,hk⟩ gP;have bf:d+1 < W.heap.size:=(aa1.1 hl).1
  have JW:∀ b,d<=b->¬ gH sk b:=fun b hb h=>by have:=Ba b h;omega
  refine⟨⟨aK,bn.turn (fun b hb=>.inl hb) (fun b hb hx=>gP.same b hb fun h=>hx (.inl (.inr h))) gP.size bn.env.defers rfl rfl,⟨acb br.size gP.size,gP.os.trans br.os,gP.tape.trans br.tape,gP.output.trans br.output,fun b hb hr=>?_,br.kept⟩⟩,(gP.same _ bf (JW _ aa)).trans hl,(gP.same _ aa (JW _ (aa8 _))).trans hk⟩;have h:=br.same b hb hr;exact⟨(gP.same b (abu hb br.size) fun hh=>hr (Jc b hh)).trans h.1,h.2⟩
 let Jx:World->Prop:=fun W=>∃ (c:Code) (H:Heap),((c=Code.ret/\Q .ret ⟨e1,H⟩)\/∃ id,c=Code.exit id/\Q (.exit id) ⟨e1,H⟩)/\At .done (some c) H W
 have SQ:∀ k (hk:k < xs.length) W,ok k/\At .ready none (inv k) W->YieldAt (wd none) 0 P (d+1) #[xs[k]] W fun e W'=>
   (e = .returned (.bool true)/\(ok (k+1)/\At .ready none (inv (k+1)) W')/\Kept (fun b=>gH sk b\/GB G b) W W')\/(e = .returned (.bool false)/\Jx W'):=by
  rintro k hk W ⟨Sz,⟨aK,bn,br⟩,hl,R7⟩;have bf:d+1 < W.heap.size:=(aa1.1 hl).1;have hy:=run_yield (P:=P) (args:=#[xs[k]]) hl (by rw[uK];rfl);rw[uK]at hy;refine⟨fn,_,assign,body,hy,roundIn_of_wpIn (F:=wd none) trivial ?_⟩;clear hy
  have RJ:(((#[p]:Array Tmp).zip #[xs[k]]).foldl (fun tmps (t,a)=>tmps.setIfInBounds t a) a.tmps)=a.tmps.setIfInBounds p xs[k]:=al
  show assign.wpIn (wd (some (d+1))) 0 P _ { tmps:=(((#[p]:Array Tmp).zip #[xs[k]]).foldl (fun tmps (t,a)=>tmps.setIfInBounds t a) a.tmps),defers:=[] } W;rw[RJ];have bc:=bn.env.size
  have RU:In W X' G aK ⟨n,[],some (d+1)⟩ { tmps:=a.tmps.setIfInBounds p xs[k],defers:=[] } ⟨ik e1 p (.d (.v xs[k])),inv k⟩:=⟨bn.bo,⟨rfl,by simpa using bc,fun i x hx=>by
   simp only[ik]at hx;split at hx
   .rename_i e;obtain rfl:=AI hx
    have:p < a.tmps.size:=by rw[bc];exact hp
    exact⟨xs[k],by rw[e];simp[this],.d (.v _)⟩
   .rename_i e;obtain⟨u,hu,hr⟩:=bn.env.slot i x hx
    exact⟨u,by simp[Array.getElem?_setIfInBounds,abY e,hu],hr⟩⟩,bn.iu⟩
  refine wpIn_mono (SP X' (d+1) k hk Sz W aK _ RU) fun e a1 w1 ⟨ku,bz,q1,Km,sG⟩=>?_
  cases e with
  | normal=>
   have vW:X' (d+1):=.inr (.inr rfl);have Jn:X' d:=.inr (.inl rfl);have qx:∀ {W:World} {μ:Mu} {H:Heap} {b:Nat},eu W X' μ H->X' b->¬ gH μ b:=fun hs hx ⟨r,m,h1,h2⟩=>hs.frame r m _ h1 h2 hx;have iM:=(sG.same _ bf (qx bn.bo vW)).1.trans hl;have fy:=(sG.same d aa (qx bn.bo Jn)).1.trans R7;have EW:d+1 < w1.heap.size:=(aa1.1 iM).1;refine⟨_,run_beginRound iM (by rw[uK]),?_⟩;have FG:In (w1.putObj (d+1) (.loop { rec .ready none with state:=.busy })) X' G ku ⟨n,[],some (d+1)⟩ a1 bz:=Km.turn (fun b hb=>.inl hb) (fun b hb hx=>World.putObj_heap_other fun e=>hx (e ▸ vW)) al Km.env.defers rfl rfl;have Qb:pn (d+1) (gS fx) W aK (w1.putObj (d+1) (.loop { rec .ready none with state:=.busy })) ku:=(sG.but _).trans (.put _ _ _ _ _);refine wpIn_mono (q1 _ ku a1 FG) fun e a3 w3 ⟨ZO,jx,q3,Th,xH⟩=>?_;have wc:w3.heap[d+1]? = some (.loop { rec .ready none with state:=.busy }):=(xH.same (d+1) (by simpa using EW) (qx FG.bo vW)).1.trans (World.putObj_heap_same EW);have Bp:w3.heap[d]? = some (.deferred (some [])):=(xH.same d (by simp;omega) (qx FG.bo Jn)).1.trans ((World.putObj_heap_other aa).trans fy);have Qc:=Qb.trans (xH.but (d+1));have Si:d+1 < w3.heap.size:=(aa1.1 wc).1
   have fin:∀ (jump:Option Code) (H:Heap),aY (gS fx) X' G ⟨n,[],some (d+1)⟩ jx ⟨fun _=>none,H⟩->∃ w4,(Instr.endRound (d+1) jump).run P w3 = .ok (.bool jump.isNone) w4/\At (if jump.isNone then .ready else .done) jump H w4/\Kept (fun b=>gH sk b\/GB G b) W w4:=fun jump H himp=>by
    obtain⟨NK,Kn,P8⟩:=himp w3 ZO a3 Th;have xJ:=(Qc.trans (P8.but (d+1))).trans (.put (gS fx) w3 NK (d+1) (.loop (rec (if jump.isNone then .ready else .done) jump)));refine⟨w3.putObj (d+1) (.loop (rec (if jump.isNone then .ready else .done) jump)),?_,⟨⟨NK,?_,?_⟩,World.putObj_heap_same Si,(World.putObj_heap_other aa).trans Bp⟩,xJ.size,fun b hb=>?_⟩
    .have:=run_endRound (P:=P) jump wc;rw[uK]at this ⊢;exact this
    .have J5:=(Kn.turn (N':=⟨n,[],some (d+1)⟩) (X':=X') (w':=w3.putObj (d+1) (.loop (rec (if jump.isNone then .ready else .done) jump))) (fun b hb=>.inl hb) (fun b hb hx=>World.putObj_heap_other fun e=>hx (e ▸ vW)) al Kn.env.defers rfl rfl)
     exact⟨J5.bo,⟨bn.env.defers,bn.env.size,fun i x hx=>by
      obtain⟨u,hu,hr⟩:=bn.env.slot i x hx
      exact⟨u,hu,hr.zH (he1 i x hx).1 xJ vW fun b hb=>hb⟩⟩,J5.iu⟩
    .exact ((br.but (d+1)).trans xJ).ev aa
    .rcases hb with hb | hb
     .exact (xJ.same b (by have:=Ba b hb;omega) (fun e=>by have:=Ba b hb;omega) (qx bn.bo (.inl (.inr hb)))).1
     .obtain⟨h1,h2⟩:=C4 bn.iu hb;exact (xJ.same b h2 (fun e=>h1 (.inl (e ▸ vW))) fun hr=>h1 (.inr hr)).1
   cases e with
   | normal=>
    obtain⟨fI,q3⟩:=q3;obtain⟨w4,h1,h2,h3⟩:=fin none _ q3;exact⟨_,w4,h1,.inl ⟨rfl,⟨fI,h2⟩,h3⟩⟩
   | ret=>
    obtain⟨H,himp,hq⟩:=q3;obtain⟨w4,h1,h2,_⟩:=fin (some .ret) H himp;exact⟨_,w4,h1,.inr ⟨rfl,.ret,H,.inl ⟨rfl,hq⟩,h2⟩⟩
   | exit id=>
    obtain⟨H,himp,hq⟩:=q3;obtain⟨w4,h1,h2,_⟩:=fin (some (.exit id)) H himp;exact⟨_,w4,h1,.inr ⟨rfl,.exit id,H,.inr ⟨id,rfl,hq⟩,h2⟩⟩
   | _=>exact q3.elim
  | _=>exact q1.elim
 refine⟨d+1,[mark d],W1,{ target:=.fn (.func gf) lb,args:=#[.func (.yield (d+1)) #[] #[]] },W1,gf,#[.func (.yield (d+1)) #[] #[]] ++ lb,W1,?_,?_,fun _ _=>trivial,?_,fun e=>(by cases e),Ny (Calls.mono
  (hit (d+1) (fun k W=>ok k/\At .ready none (inv k) W) Jx
   (fun k W W' h gP=>⟨h.1,I9 _ _ _ W W' h.2 gP⟩) (fun W W' ⟨c,H,hq,h⟩ gP=>⟨c,H,hq,I9 _ _ _ W W' h gP⟩) SQ W1 ⟨rH.size,fun b hb=>rH.same b (hb.elim (fun h=>by have:=Ba b h;omega) fun h=>by have:=(C4 hi.iu h).2;omega)⟩ ⟨Sw,⟨_,jB,RH⟩,QL,aI⟩) ?_)⟩
 .rw[<- x5,uK];have:=run_enterLoop_outer (P:=P) (w:=w) fn a.tmps #[p] assign body;rw[hD]at this;exact this
 .simp only[resolve,ny];simp[go_sem]
 .have:=hF;simp[invoke,go_sem,hF _ W1]
 .rintro e W2 ⟨⟨v,rfl⟩,hJ⟩
  have out:∀ st pe H,st≠.busy->At st pe H W2->∃ w4,(Instr.endLoop (d+1)).run P W2 = .ok pe w4/\∀ q:Exit,Q q ⟨e1,H⟩->HL Mv X G n s w μ Q q { a with defers:=[mark d] ++ a.defers } w4:=by
   rintro st pe H bO ⟨⟨aK,bn,br⟩,hl,hk⟩;have bf:d+1 < W2.heap.size:=(aa1.1 hl).1;refine⟨W2.putObj (d+1) (.loop { rec st pe with state:=.exhausted }),?_,fun q hq=>⟨d :: ds,aK,⟨e1,H⟩,hq,⟨?_,?_,?_⟩,?_,?_⟩⟩
   .have:=run_endLoop (P:=P) hl (by rw[uK];exact bO);rw[uK]at this ⊢;exact this
   .exact acx.2 ⟨fun h=>by have:=(aa1.1 (hm.wY d h)).1;omega,hm.nodup⟩
   .intro x hx
    rcases abg.1 hx with rfl | hx
    .omega
    .exact hm.new x hx
   .intro x hx
    rcases abg.1 hx with rfl | hx
    .exact (World.putObj_heap_other aa).trans hk
    .have h0:=(aa1.1 (hm.wY x hx)).1;have h1:=br.same x h0 fun ⟨r,m,h1,h2⟩=>hi.bo.frame r m x h1 h2 (.inr hx);exact (World.putObj_heap_other aa).trans (h1.1.trans (hm.wY x hx))
   .refine bn.turn (fun b hb=>.inl ?_) (fun b hb hx=>World.putObj_heap_other fun e=>hx (.inr (.inr e))) al ?_ rfl rfl
    .rcases hb with hb | hb
     .exact .inl (.inl (.inl hb))
     .rcases abg.1 hb with rfl | hb
      .exact .inr (.inl rfl)
      .exact .inl (.inl (.inr hb))
    .show [mark d] ++ a.defers=(d :: ds).map mark;rw[bn.env.defers];rfl
   .refine (((br.but (d+1)).trans (.put _ _ _ _ _)).ev aa).weaken fun q m _ hq=>QM q hq
  rcases hJ with⟨Sy,hJ⟩ | ⟨c,H,hq,hJ⟩
  .obtain⟨w4,h1,h2⟩:=out _ _ _ al hJ;exact⟨none,w4,h1,h2 .normal (Ry Sy)⟩
  .obtain⟨w4,h1,h2⟩:=out _ _ _ al hJ;refine⟨some c,w4,h1,?_⟩
   rcases hq with⟨rfl,hq⟩ | ⟨id,rfl,hq⟩
   .exact wpIn_ret (h2 .ret hq)
   .exact wpIn_exit (h2 (.exit id) hq)
end
