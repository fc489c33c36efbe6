/- Parts. -/
import Derived.Test.YtoohljflflnbeaaGreatDoorFr10
import Derived.RangeFuncSeq
set_option linter.unusedSectionVars false
set_option linter.unusedSimpArgs false
set_option linter.unusedVariables false
set_option maxHeartbeats 1000000
namespace Go.Av
def mark (d:Nat):Deferred:={ target:=.collected d,args:=#[] }
structure Marks (s:Nat) (w:World) (ds:List Nat):Prop where
 nodup:ds.Nodup
 new:∀ d∈ds,s<=d
 Bh:∀ d∈ds,w.heap[d]? = some (.deferred (some []))
def XD (X:Nat->Prop) (ds:List Nat) (b:Nat):Prop:=X b\/b∈ds
structure r5 (l:Nat) (Mv:Nat->Prop) (w:World) (μ:Mu) (w':World) (aI:Mu):Prop where
 size:w.heap.size<=w'.heap.size
 os:w'.os=w.os
 tape:w'.tape=w.tape
 output:w'.output=w.output
 same:∀ b,b < w.heap.size->b≠l->¬ jz μ b->w'.heap[b]? = w.heap[b]?/\¬ jz aI b
 kept:∀ r m,μ r=some m->¬ Mv r->aI r=some m
theorem Ev.but {Mv:Nat->Prop} {w w':World} {μ aI:Mu} (h:Ev Mv w μ w' aI) (l:Nat):r5 l Mv w μ w' aI:=⟨h.size,h.os,h.tape,h.output,fun b hb _ hr=>h.same b hb hr,h.kept⟩
theorem r5.trans {l:Nat} {Mv:Nat->Prop} {w w1 w2:World} {μ l4 jZ:Mu} (h:r5 l Mv w μ w1 l4) (h':r5 l Mv w1 l4 w2 jZ):r5 l Mv w μ w2 jZ:=
 ⟨ald h.size h'.size,h'.os.trans h.os,h'.tape.trans h.tape,h'.output.trans h.output,fun b hb hl hr=>
  have h1:=h.same b hb hl hr;have h2:=h'.same b (akd hb h.size) hl h1.2
  ⟨h2.1.trans h1.1,h2.2⟩,fun r m hm hn=>h'.kept r m (h.kept r m hm hn) hn⟩
theorem r5.put (Mv:Nat->Prop) (w:World) (μ:Mu) (l:Nat) (o:Obj):r5 l Mv w μ (w.putObj l o) μ:=
 ⟨ak,rfl,rfl,rfl,fun b _ hl hr=>⟨World.putObj_heap_other hl,hr⟩,fun _ _ h _=>h⟩
theorem r5.ev {l:Nat} {Mv:Nat->Prop} {w w':World} {μ aI:Mu} (h:r5 l Mv w μ w' aI) (hl:w.heap.size<=l):Ev Mv w μ w' aI:=
 ⟨h.size,h.os,h.tape,h.output,fun b hb hr=>h.same b hb aa hr,h.kept⟩
section
variable {P:Program} {T:Ty} {Mv X:Nat->Prop} {G:ay} {N:Fr} {w w':World} {μ:Mu} {a:Act} {σ:St}
theorem In.turn {N':Fr} {X':Nat->Prop} {a':Act} (hi:In w X G μ N a σ) (hX:∀ b,X' b->X b\/(w.heap.size<=b/\b < w'.heap.size)) (tp:∀ b,b < w.heap.size->¬ X b->w'.heap[b]? = w.heap[b]?) (bd:w.heap.size<=w'.heap.size)
  (hd:a'.defers=N'.ds) (hn:N'.n=N.n) (ht:a'.tmps=a.tmps):In w' X' G μ N' a' σ:=by
 have hD:∀ u d,RD w (XX X μ) u d->RD w' (XX X' μ) u d:=fun u d h=>h.mono bd fun b hb bk=>
  ⟨tp b hb fun e=>bk (.inl e),fun e=>bk (e.elim (fun e=>(hX b e).elim .inl fun ⟨h,_⟩=>absurd hb (Nat.not_lt.2 h)) .inr)⟩
 refine⟨⟨fun r row hr=>?_,hi.bq.lq,hi.bq.inj,fun r m b hr hb hx=>?_,fun b hb=>?_⟩,⟨hd,by rw[ht,hn];exact hi.env.size,fun i x hx=>?_⟩,fun g x hx=>hD _ _ (hi.jf g x hx)⟩
 .obtain⟨m,hm,ok⟩:=hi.bq.rows r row hr;exact⟨m,hm,ok.lift (fun b hb=>tp b (ok.mF hb) (hi.bq.frame r m b hm hb)) hD fun _ _ h=>h⟩
 .have aH:=hi.bq.mF ⟨r,m,hr,hb⟩;exact (hX b hx).elim (hi.bq.frame r m b hr hb) fun ⟨h,_⟩=>absurd aH (Nat.not_lt.2 h)
 .exact (hX b hb).elim (fun h=>akd (hi.bq.fits b h) bd) (·.2)
 .obtain⟨u,hu,hr⟩:=hi.env.slot i x hx;exact⟨u,by rw[ht];exact hu,hr.lift hD fun _ _ h=>h⟩
theorem Marks.ev {s:Nat} {ds:List Nat} {H:Heap} {aI:Mu} (hm:Marks s w ds) (hs:eA w (XD X ds) μ H) (ev:Ev Mv w μ w' aI):Marks s w' ds:=
 ⟨hm.nodup,hm.new,fun d hd=>(ev.same d (abi.1 (hm.Bh d hd)).1 fun ⟨r,m,hr,hb⟩=>hs.frame r m d hr hb (.inr hd)).1.trans (hm.Bh d hd)⟩
def NR (Mv X:Nat->Prop) (G:ay) (n s:Nat) (w:World) (μ:Mu) (Q:Exit->St->Prop) (e:Exit) (a':Act) (w':World):Prop:=
 ∃ ds aI aG,Q e aG/\Marks s w' ds/\In w' (XD X ds) G aI ⟨n,ds.map mark,none⟩ a' aG/\Ev Mv w μ w' aI
def gh (P:Program) (Mv X:Nat->Prop) (G:ay) (n s:Nat) (c:Code) (Q:Exit->St->Prop) (σ:St):Prop:=
 ∀ ds w μ a,s<=w.heap.size->Marks s w ds->In w (XD X ds) G μ ⟨n,ds.map mark,none⟩ a σ->c.wpIn (wd none) 0 P (NR Mv X G n s w μ Q) a w
theorem Em {n s:Nat} {c:Code} {Q:Exit->St->Prop} (h:∀ X' ds,AW P Mv X' G ⟨n,ds,none⟩ c Q σ):gh P Mv X G n s c Q σ:=fun ds w μ a hs hm hi=>
 wpIn_mono (h (XD X ds) _ w μ a hi) fun e a' w' ⟨aI,aG,q,i,ev⟩=>⟨ds,aI,aG,q,hm.ev hi.bq ev,i,ev⟩
theorem gh.imp {n s:Nat} {c:Code} {Q:Exit->St->Prop} {τ:St} (hi:∀ X' ds,aM Mv X' G ⟨n,ds,none⟩ σ τ) (h:gh P Mv X G n s c Q τ):gh P Mv X G n s c Q σ:=fun ds w μ a hs hm aO=>by
 obtain⟨l4,h1,e1⟩:=hi (XD X ds) _ w μ a aO;exact wpIn_mono (h ds w l4 a hs hm h1) fun e a' w' ⟨iM,aI,aG,q,m,i,ev⟩=>⟨iM,aI,aG,q,m,i,e1.trans ev⟩
theorem En {n s:Nat} {x y:Code} {Q:Exit->St->Prop} (h:gh P Mv X G n s x (aV (gh P Mv X G n s y Q) Q) σ):gh P Mv X G n s (.seq x y) Q σ:=fun ds w μ a hs hm hi=>
 wpIn_seq (wpIn_mono (h ds w μ a hs hm hi) fun e a' w' ⟨iM,aI,aG,q,m,i,ev⟩=>by
  cases e with
  | normal=>exact wpIn_mono (q iM w' aI a' (ald hs ev.size) m i) fun e2 a2 w2 ⟨XC,jZ,gU,q2,m2,i2,xG⟩=>⟨XC,jZ,gU,q2,m2,i2,ev.trans xG⟩
  | _=>exact⟨iM,aI,aG,q,m,i,ev⟩)
theorem Vj {n s id:Nat} {c:Code} {Q:Exit->St->Prop} (h:gh P Mv X G n s c (aX id Q) σ):gh P Mv X G n s (.block id c) Q σ:=fun ds w μ a hs hm hi=>
 wpIn_block (wpIn_mono (h ds w μ a hs hm hi) fun e a' w' ⟨iM,aI,aG,q,m,i,ev⟩=>by
  cases e with
  | exit Gq=>
   simp only[aX]at q;simp only[Exit.inBlock];split
   .rename_i he;rw[if_pos he]at q;exact⟨iM,aI,aG,q,m,i,ev⟩
   .rename_i he;rw[if_neg he]at q;exact⟨iM,aI,aG,q,m,i,ev⟩
  | _=>exact⟨iM,aI,aG,q,m,i,ev⟩)
theorem ab4 {fn:Func} {tmps:Array Value} {R:Ending->World->Prop}:∀ (ds:List Nat) (w:World),ds.Nodup->(∀ d∈ds,w.heap[d]? = some (.deferred (some [])))->
  (∀ w',w'.heap.size=w.heap.size->w'.os=w.os->w'.tape=w.tape->w'.output=w.output->(∀ b,b ∉ ds->w'.heap[b]? = w.heap[b]?)->∃ v,(results fn tmps).run P w' = .ok v w'/\R (.returned v) w')->
  LeavesInM (wd none) 0 P fn tmps R (ds.map mark) .returning w:=by
 intro ds
 induction ds with
 | nil=>
  intro w _ _ h;obtain⟨v,hv,hR⟩:=h w rfl rfl rfl rfl fun _ _=>rfl;show LeavesIn (wd none) 0 P fn tmps R [] .returning w;exact⟨v,hv,hR⟩
 | cons d ds ih=>
  intro w hn ho h;obtain⟨hd,hn⟩:=akB.1 hn;refine⟨ak,.inl ⟨d,w.putObj d (.deferred none),rfl,run_takeDeferred (ho d ak),ih _ hn (fun e he=>?_) fun w' h1 h2 h3 h4 h5=>?_⟩⟩
  .rw[World.putObj_heap_other (fun e':e=d=>hd (by rw[<- e'];exact he))];exact ho e (by simp[he])
  .refine h w' (by simpa using h1) h2 h3 h4 fun b hb=>?_;rw[h5 b (fun e=>hb (by simp[e])),World.putObj_heap_other (fun e=>hb (by simp[e]))]
theorem In.shut {n:Nat} {ds:List Nat} (hi:In w (XD X ds) G μ ⟨n,ds.map mark,none⟩ a σ) (h1:w'.heap.size=w.heap.size) (h5:∀ b,b ∉ ds->w'.heap[b]? = w.heap[b]?):In w' X G μ ⟨n,[],none⟩ { a with defers:=[] } σ:=
 hi.turn (fun b hb=>.inl (.inl hb)) (fun b _ hb=>h5 b fun e=>hb (.inr e)) aa rfl rfl rfl
theorem Ev.shut {s:Nat} {w0:World} {lh:Mu} {ds:List Nat} (h:Ev Mv w0 lh w μ) (hm:Marks s w ds) (hs:w0.heap.size<=s) (h1:w'.heap.size=w.heap.size) (h2:w'.os=w.os) (h3:w'.tape=w.tape) (h4:w'.output=w.output) (h5:∀ b,b ∉ ds->w'.heap[b]? = w.heap[b]?):Ev Mv w0 lh w' μ:=
 ⟨by have:=h.size;omega,h2.trans h.os,h3.trans h.tape,h4.trans h.output,fun b hb hr=>by
  have h6:=h.same b hb hr
  exact⟨(h5 b fun e=>by have:=hm.new b e;omega).trans h6.1,h6.2⟩,h.kept⟩
theorem aD.ac9 (hg:Good P T) {g:FuncId} {fn:Func} {c:Code} {rs:List ResultVar} {ds:List D} {y:D} (hf:P.funcs[g]? = some fn) (hb:fn.body=some c) (hn:(fn.name == "runtime.NumGoroutine")=false) (mj:fn.results=rs.toArray)
  (hN:ds.length<=fn.ntmps) (h:∀ X s,gh P (fun _=>True) X G fn.ntmps s c (Ip T rs y) ⟨args (ds.map .d),jj⟩):aD P G g ds y:=by
 refine⟨iA.of hf hb hn,fun X w μ vs hs dt bd hv=>?_⟩
 refine (callsIn_wide (n:=0)).1 (callsIn_of_wp_marks hf hb trivial (wpIn_mono (h X w.heap.size [] w μ _ (ajJ _) ⟨List.nodup_nil,ak,ak⟩
  (In.turn (X:=X) (N:=⟨fn.ntmps,[],none⟩) (a:={ tmps:=vs ++ Array.replicate (fn.ntmps - vs.size) undef,defers:=[] }) ⟨hs,⟨rfl,by simp;simp at bd;omega,fun i x hx=>?_⟩,dt⟩ (fun b hb=>.inl (hb.elim id ak)) (fun _ _ _=>rfl) (ajJ _) rfl rfl rfl)) fun e a' w' ⟨iM,aI,aG,q,hm,i,ev⟩=>?_))
 .simp only[args]at hx;have hi:i < (ds.map AV.d).length:=(BY.1 hx).1
  have wF:vs[i]? = some vs[i]:=by rw[ajZ]
  exact⟨vs[i],by rw[akm aa,wF],hv i _ x wF hx⟩
 .have fin:zN T rs y aG->LeavesInM (wd none) 0 P fn a'.tmps (fun e w'=>∃ v x H' aI,e = .returned v/\(x = .d y/\H'=jj)/\RV w' X aI v x/\eA w' X aI H'/\Ev (fun _=>True) w μ w' aI) a'.defers .returning w':=fun he=>by
   rw[i.env.defers];refine ab4 iM w' hm.nodup hm.Bh fun w2 h1 h2 h3 h4 h5=>?_;have hi:=i.shut h1 h5;have aW:=ev.shut hm (ajJ _) h1 h2 h3 h4 h5;unfold zN at he;split at he
   .rename_i c xs hx;obtain⟨hc,he⟩:=he;split at he
    .rename_i y' hy;obtain⟨v,hv,hr⟩:=MJ (P:=P) hg hi mj hx hc;have bY:=(Ez hi.bq 6 hy hr).le he;refine⟨v,hv,v,.d y,jj,fun _=>none,rfl,⟨rfl,rfl⟩,.d (bY.sub fun b=>pz.1),eA.none hi.bq.fits,aW.size,aW.os,aW.tape,aW.output,fun b hb hr=>⟨(aW.same b hb hr).1,fun ⟨_,_,h,_⟩=>by cases h⟩,fun r m _ hn=>absurd trivial hn⟩
    .exact he.elim
   .exact he.elim
  cases e with
  | normal=>exact fin q
  | ret=>exact fin q
  | _=>exact q.elim
structure Grown (B:Nat->Prop) (w w':World):Prop where
 size:w.heap.size<=w'.heap.size
 os:w'.os=w.os
 tape:w'.tape=w.tape
 output:w'.output=w.output
 same:∀ b,b < w.heap.size->¬ B b->w'.heap[b]? = w.heap[b]?
structure Kept (B:Nat->Prop) (w w':World):Prop where
 size:w.heap.size<=w'.heap.size
 same:∀ b,B b->w'.heap[b]? = w.heap[b]?
def GB (G:ay) (b:Nat):Prop:=∃ x,G b=some x/\((∃ l,x = .ip l)\/∃ cs,x = .qe cs)
theorem H6 {G:ay} {w:World} {X:Nat->Prop} (dt:∀ g x,G g=some x->RD w X (.pointer (some ⟨g,0,none⟩)) x) {b:Nat} (h:GB G b):¬ X b/\b < w.heap.size:=by
 obtain⟨x,hx,h | h⟩:=h
 .obtain⟨l,rfl⟩:=h;have h1:=dt _ _ hx;generalize hy:D.ip l=y at h1;generalize hv:Value.pointer (some ⟨b,0,none⟩)=v at h1;cases h1<;>cases hy;rename_i hX hb _ _;injection hv with hv;injection hv with hv;injection hv with hv;subst hv;exact⟨hX,hb⟩
 .obtain⟨cs,rfl⟩:=h;have h1:=dt _ _ hx;generalize hy:D.qe cs=y at h1;generalize hv:Value.pointer (some ⟨b,0,none⟩)=v at h1;cases h1<;>cases hy;rename_i hX hb;injection hv with hv;injection hv with hv;injection hv with hv;subst hv;exact⟨hX,(abi.1 hb).1⟩
def NS (P:Program) (gf:FuncId) (lb:Array Value) (B C:Nat->Prop) (xs:List Value) (w0:World):Prop:=
 ∀ (l:Nat) (J:Nat->World->Prop) (Jx:World->Prop),(∀ k W W',J k W->Grown B W W'->J k W')->(∀ W W',Jx W->Grown B W W'->Jx W')->
  (∀ k (hk:k < xs.length) W,J k W->YieldAt (wd none) 0 P l #[xs[k]] W fun e W'=>(e = .returned (.bool true)/\J (k+1) W'/\Kept C W W')\/(e = .returned (.bool false)/\Jx W'))->
  ∀ w1,Kept C w0 w1->J 0 w1->Calls P gf (#[.func (.yield l) #[] #[]] ++ lb) w1 fun e W'=>(∃ v,e = .returned v)/\(J xs.length W'\/Jx W')
def p4 (it:List Nat) (q:Nat):Bool:=!it.contains q
def yW (it:List Nat) (q off n:Nat):AV:=if it.contains q then .dead else .own q off n
def wS (it:List Nat) (q e j:Nat):AV:=if it.contains q then .dead else .ref q e j
theorem In.rest {e0:Env} {H0:Heap} (it:List Nat) (hi:In w X G μ N a ⟨e0,H0⟩):In w (XX X (cC it.contains μ)) G (cC (p4 it) μ) N a ⟨fun i=>(e0 i).map (AV.tr (yW it) (wS it)),eM (p4 it) (yW it) (wS it) H0⟩:=by
 have Af:∀ b,XX (XX X (cC it.contains μ)) (cC (p4 it) μ) b->XX X μ b:=fun b hb=>hb.elim (fun hb=>hb.elim .inl fun h=>.inr (tM h)) fun h=>.inr (tM h);have hD:∀ u d,RD w (XX X μ) u d->RD w (XX (XX X (cC it.contains μ)) (cC (p4 it) μ)) u d:=fun u d h=>h.sub Af
 have hm:∀ q m,it.contains q=false->μ q=some m->cC (p4 it) μ q=some m:=fun q m hk h=>by simp only[cC,p4,hk,akG,if_true];exact h
 have hV:∀ u x,RV w X μ u x->RV w (XX X (cC it.contains μ)) (cC (p4 it) μ) u (x.tr (yW it) (wS it)):=fun u x=>RV.zl hD (fun u r off n h=>by
   unfold yW;split
   .exact .dead u
   .rename_i hk;obtain⟨m,h1,h2⟩:=h.lF
    exact .own (hm r m (by simpa using hk) h1) h2) (fun u r e j h=>by
   unfold wS;split
   .exact .dead u
   .rename_i hk;obtain⟨m,b,h1,h2,rfl⟩:=h.lG
    exact .ref (hm r m (by simpa using hk) h1) h2)
 refine⟨⟨fun r row hr=>?_,fun r m hr=>?_,fun q q' m1 m2 b h1 h2 e9 ea=>hi.bq.inj q q' m1 m2 b (kL h1).2 (kL h2).2 e9 ea,fun q m b hq hb hX=>?_,fun b hb=>hb.elim (hi.bq.fits b) fun h=>hi.bq.mF (tM h)⟩,⟨hi.env.defers,hi.env.size,fun i x hx=>?_⟩,fun g x hx=>hD _ _ (hi.jf g x hx)⟩
 .dsimp only[eM]at hr;split at hr
  .rename_i hk;obtain⟨pn,h0,rfl⟩:=AS.1 hr;obtain⟨m,h1,ok⟩:=hi.bq.rows r pn h0;exact⟨m,hm r m (by simpa[p4]using hk) h1,ok.zl (fun _ _=>rfl) hD hV⟩
  .cases hr
 .obtain⟨hk,h1⟩:=kL hr;obtain⟨row,h0⟩:=hi.bq.lq r m h1;exact⟨row.tr (yW it) (wS it),by dsimp only[eM];rw[if_pos hk];dsimp only at h0;rw[h0];rfl⟩
 .obtain⟨hk,h1⟩:=kL hq
  rcases hX with h | ⟨q',m',o5,bk⟩
  .exact hi.bq.frame q m b h1 hb h
  .obtain⟨gy,Jf⟩:=kL o5;obtain rfl:=hi.bq.inj q q' m m' b h1 Jf hb bk;simp only[p4,gy,Bool.not_true,ajM]at hk
 .obtain⟨y,hy,rfl⟩:=AS.1 hx;obtain⟨u,hu,hr⟩:=hi.env.slot i y hy;exact⟨u,hu,hV u y hr⟩
def Ea (fx:List Nat):AV->Prop
 | .d _=>True
 | .ref r _ _=>fx.contains r=true
 | _=>False
def agf (P:Program) (X:Nat->Prop) (G:ay) (N:Fr) (fx:List Nat) (Q:Exit->St->Prop) (e1:Env) (next:Heap) (nx:Prop):Exit->St->Prop
 | .normal,σ=>nx/\aM (jx fx) X G N σ ⟨fun _=>none,next⟩
 | .ret,σ=>∃ H,aM (jx fx) X G N σ ⟨fun _=>none,H⟩/\Q .ret ⟨e1,H⟩
 | .exit id,σ=>∃ H,aM (jx fx) X G N σ ⟨fun _=>none,H⟩/\Q (.exit id) ⟨e1,H⟩
 | _,_=>False
theorem RV.Ea {X X':Nat->Prop} {l:Nat} {μ aI:Mu} {fx:List Nat} {u:Value} {x:AV} (hs:Ea fx x) (ev:r5 l (jx fx) w μ w' aI) (hl:X l) (hX:∀ b,X' b->X b) (hr:RV w X μ u x):RV w' X' aI u x:=by
 cases x with
 | d x=>exact .d (hr.data.mono ev.size fun b hb bk=>by
   have h:=ev.same b hb (fun e=>bk (.inl (e ▸ hl))) fun e=>bk (.inr e)
   exact⟨h.1,fun e=>e.elim (fun e=>bk (.inl (hX b e))) h.2⟩)
 | ref r e j=>
  obtain⟨m,b,hm,hb,rfl⟩:=hr.lG;exact .ref (ev.kept r m hm (by unfold jx;unfold Av.Ea at hs;rw[hs];simp)) hb
 | _=>exact hs.elim
theorem Vk {n s:Nat} {g:Operand} {p:Tmp} {assign body:Code} {Q:Exit->St->Prop} {e0:Env} {H0:Heap} {gf:FuncId} {caps:List AV} (xs:List Value) (it fx:List Nat) (e1:Env) (inv:Nat->Heap) (ok:Nat->Prop) (aaE:ok 0)
  (hg:bC G e0 g=some (.fn (.func gf) caps)) (hF:iA P gf) (hp:p < n)
  (hIt:∀ (w:World) (X:Nat->Prop) (μ:Mu) (lb:Array Value),eA w X μ (eM it.contains (fA it) (fy it) H0)->(∀ g x,G g=some x->RD w (XX X μ) (.pointer (some ⟨g,0,none⟩)) x)->lb.size=caps.length->(∀ (i:Nat) (u:Value) (x:AV),lb[i]? = some u->caps[i]? = some x->RV w X μ u (x.tr (fA it) (fy it)))->NS P gf lb (jz μ) (fun b=>jz μ b\/GB G b) xs w)
  (he1:∀ i x,e1 i=some x->Ea fx x/\∃ y,e0 i=some y/\y.tr (yW it) (wS it)=x) (hH:eM (p4 it) (yW it) (wS it) H0=inv 0) (Y7:∀ q,jx fx q->Mv q) (hfx:∀ q,fx.contains q=true->it.contains q=false)
  (aaQ:∀ X' l k (hk:k < xs.length),ok k->AW P (jx fx) X' G ⟨n,[],some l⟩ assign (aV (AW P (jx fx) X' G ⟨n,[],some l⟩ body (agf P X' G ⟨n,[],some l⟩ fx Q e1 (inv (k+1)) (ok (k+1)))) (fun _ _=>False)) ⟨gS e1 p (.d (.v xs[k])),inv k⟩)
  (Z1:ok xs.length->Q .normal ⟨e1,inv xs.length⟩):gh P Mv X G n s (.rangeFunc g #[p] assign body) Q ⟨e0,H0⟩:=by
 intro ds w μ a AH hm hi
 obtain⟨lb,om,sq,wu⟩:∃ lb:Array Value,a.eval g = .func (.func gf) #[] lb/\lb.size=caps.length/\∀ (i:Nat) (u:Value) (x:AV),lb[i]? = some u->caps[i]? = some x->RV w (XD X ds) μ u x:=by
  have h:=hi.eval hg;generalize a.eval g=v at h ⊢
  cases h with
  | fn hn hr=>exact⟨_,rfl,hn,hr⟩
 have dH:=hi.rest it;obtain⟨KH,mX⟩:=hi.bq.part it;have hit:=hIt w _ _ lb KH (fun g x hx=>(hi.jf g x hx).sub fun b=>Ic.1) sq fun i u x hu hx=>mX (wu i u x hu hx);generalize hB:cC it.contains μ=vz at dH KH hit;have Ps:∀ b,jz vz b->jz μ b:=fun b h=>tM (hB ▸ h);have Ft:∀ b,jz vz b->b < w.heap.size:=fun b h=>hi.bq.mF (Ps b h);rw[hH]at dH
 have gx:In w (XX (XD X ds) vz) G (cC (p4 it) μ) ⟨n,ds.map mark,none⟩ a ⟨e1,inv 0⟩:=⟨dH.bq,⟨dH.env.defers,dH.env.size,fun i x hx=>by
  obtain⟨_,y,hy,rfl⟩:=he1 i x hx
  exact dH.env.slot i _ (by dsimp only;rw[hy];rfl)⟩,dH.jf⟩
 clear dH mX KH;refine wpIn_rangeFunc fun fn _=>?_;generalize hD:w.heap.size=d at *;obtain⟨rec,ym⟩:∃ rec:LoopState->Option Code->Loop,rec=fun st pe=>{ state:=st,pending:=pe,fn,tmps:=a.tmps,params:=#[p],assign,body,defers:=d }:=⟨_,rfl⟩;obtain⟨W1,Cs⟩:∃ W1,(w.alloc (.deferred (some []))).alloc (.loop (rec .ready none))=W1:=⟨_,rfl⟩
 have AO:W1.heap.size=d+2:=by rw[<- Cs];simp;omega
 have uZ:cN w W1:=by
  rw[<- Cs];have h1:=cN.alloc w (.deferred (some []));have h2:=cN.alloc (w.alloc (.deferred (some []))) (.loop (rec .ready none));exact⟨ald h1.size h2.size,h2.os.trans h1.os,h2.tape.trans h1.tape,h2.output.trans h1.output,fun b hb=>(h2.same b (akd hb h1.size)).trans (h1.same b hb)⟩
 have xN:W1.heap[d+1]? = some (.loop (rec .ready none)):=by
  rw[<- Cs];have:=World.alloc_heap_new (w.alloc (.deferred (some []))) (.loop (rec .ready none));rwa [World.size_alloc,hD]at this
 have aF:W1.heap[d]? = some (.deferred (some [])):=by
  rw[<- Cs,(cN.alloc (w.alloc (.deferred (some []))) (.loop (rec .ready none))).same d (by simp;omega),<- hD];exact World.alloc_heap_new w _
 let X':Nat->Prop:=fun b=>XX (XD X ds) vz b\/b=d\/b=d+1
 have aiz:∀ b,XX (XD X ds) vz b->b < d:=fun b hb=>by have:=gx.bq.fits b hb;omega
 have gJ:In W1 X' G (cC (p4 it) μ) ⟨n,ds.map mark,none⟩ a ⟨e1,inv 0⟩:=gx.turn (fun b hb=>hb.elim .inl fun hb=>.inr aa) (fun b hb _=>uZ.same b hb) uZ.size gx.env.defers rfl rfl
 have Z9:Ev (jx fx) w μ W1 (cC (p4 it) μ):=⟨uZ.size,uZ.os,uZ.tape,uZ.output,fun b hb hr=>⟨uZ.same b hb,fun h=>hr (tM h)⟩,fun q m hq hn=>by
  have hfq:fx.contains q=true:=by
   cases h:fx.contains q with
   | true=>rfl
   | false=>exact absurd h hn
  simp only[cC,p4,hfx q hfq,akG,if_true];exact hq⟩
 let At (st:LoopState) (pe:Option Code) (H:Heap) (W:World):Prop:=(∃ aI,In W X' G aI ⟨n,ds.map mark,none⟩ a ⟨e1,H⟩/\Ev (jx fx) w μ W aI)/\W.heap[d+1]? = some (.loop (rec st pe))/\W.heap[d]? = some (.deferred (some []))
 have Pp:∀ st pe H W W',At st pe H W->Grown (jz vz) W W'->At st pe H W':=by
  rintro st pe H W W' ⟨⟨aI,aO,aW⟩,hl,hk⟩ fJ;have aH:d+1 < W.heap.size:=(abi.1 hl).1
  have QA:∀ b,d<=b->¬ jz vz b:=fun b hb h=>by have:=Ft b h;omega
  refine⟨⟨aI,aO.turn (fun b hb=>.inl hb) (fun b hb hx=>fJ.same b hb fun h=>hx (.inl (.inr h))) fJ.size aO.env.defers rfl rfl,⟨ald aW.size fJ.size,fJ.os.trans aW.os,fJ.tape.trans aW.tape,fJ.output.trans aW.output,fun b hb hr=>?_,aW.kept⟩⟩,(fJ.same _ aH (QA _ aa)).trans hl,(fJ.same _ aa (QA _ (ajJ _))).trans hk⟩;have h:=aW.same b hb hr;exact⟨(fJ.same b (akd hb aW.size) fun hh=>hr (Ps b hh)).trans h.1,h.2⟩
 let Jx:World->Prop:=fun W=>∃ (c:Code) (H:Heap),((c=Code.ret/\Q .ret ⟨e1,H⟩)\/∃ id,c=Code.exit id/\Q (.exit id) ⟨e1,H⟩)/\At .done (some c) H W
 have aaR:∀ k (hk:k < xs.length) W,ok k/\At .ready none (inv k) W->YieldAt (wd none) 0 P (d+1) #[xs[k]] W fun e W'=>
   (e = .returned (.bool true)/\(ok (k+1)/\At .ready none (inv (k+1)) W')/\Kept (fun b=>jz vz b\/GB G b) W W')\/(e = .returned (.bool false)/\Jx W'):=by
  rintro k hk W ⟨aaG,⟨aI,aO,aW⟩,hl,hkD⟩;have aH:d+1 < W.heap.size:=(abi.1 hl).1;have hy:=run_yield (P:=P) (args:=#[xs[k]]) hl (by rw[ym];rfl);rw[ym]at hy;refine⟨fn,_,assign,body,hy,roundIn_of_wpIn (F:=wd none) trivial ?_⟩;clear hy
  have aac:(((#[p]:Array Tmp).zip #[xs[k]]).foldl (fun tmps (t,a)=>tmps.setIfInBounds t a) a.tmps)=a.tmps.setIfInBounds p xs[k]:=ak
  show assign.wpIn (wd (some (d+1))) 0 P _ { tmps:=(((#[p]:Array Tmp).zip #[xs[k]]).foldl (fun tmps (t,a)=>tmps.setIfInBounds t a) a.tmps),defers:=[] } W;rw[aac];have bd:=aO.env.size
  have aaf:In W X' G aI ⟨n,[],some (d+1)⟩ { tmps:=a.tmps.setIfInBounds p xs[k],defers:=[] } ⟨gS e1 p (.d (.v xs[k])),inv k⟩:=⟨aO.bq,⟨rfl,by simpa using bd,fun i x hx=>by
   simp only[gS]at hx;split at hx
   .rename_i e;obtain rfl:=AI hx
    have:p < a.tmps.size:=by rw[bd];exact hp
    exact⟨xs[k],by rw[e];simp[this],.d (.v _)⟩
   .rename_i e;obtain⟨u,hu,hr⟩:=aO.env.slot i x hx
    exact⟨u,by simp[Array.getElem?_setIfInBounds,akI e,hu],hr⟩⟩,aO.jf⟩
  refine wpIn_mono (aaQ X' (d+1) k hk aaG W aI _ aaf) fun e a1 w1 ⟨l4,aT,q1,Rg,se⟩=>?_
  cases e with
  | normal=>
   have lv:X' (d+1):=.inr (.inr rfl);have P0:X' d:=.inr (.inl rfl);have pS:∀ {W:World} {μ:Mu} {H:Heap} {b:Nat},eA W X' μ H->X' b->¬ jz μ b:=fun hs hx ⟨r,m,h1,h2⟩=>hs.frame r m _ h1 h2 hx;have kG:=(se.same _ aH (pS aO.bq lv)).1.trans hl;have bQ:=(se.same d aa (pS aO.bq P0)).1.trans hkD;have Kt:d+1 < w1.heap.size:=(abi.1 kG).1;refine⟨_,run_beginRound kG (by rw[ym]),?_⟩;have Lo:In (w1.putObj (d+1) (.loop { rec .ready none with state:=.busy })) X' G l4 ⟨n,[],some (d+1)⟩ a1 aT:=Rg.turn (fun b hb=>.inl hb) (fun b hb hx=>World.putObj_heap_other fun e=>hx (e ▸ lv)) ak Rg.env.defers rfl rfl;have Ya:r5 (d+1) (jx fx) W aI (w1.putObj (d+1) (.loop { rec .ready none with state:=.busy })) l4:=(se.but _).trans (.put _ _ _ _ _);refine wpIn_mono (q1 _ l4 a1 Lo) fun e a3 w3 ⟨μ3,jl,q3,in3,B1⟩=>?_;have Qv:w3.heap[d+1]? = some (.loop { rec .ready none with state:=.busy }):=(B1.same (d+1) (by simpa using Kt) (pS Lo.bq lv)).1.trans (World.putObj_heap_same Kt);have eG:w3.heap[d]? = some (.deferred (some [])):=(B1.same d (by simp;omega) (pS Lo.bq P0)).1.trans ((World.putObj_heap_other aa).trans bQ);have Yb:=Ya.trans (B1.but (d+1));have ot:d+1 < w3.heap.size:=(abi.1 Qv).1
   have fin:∀ (jump:Option Code) (H:Heap),aM (jx fx) X' G ⟨n,[],some (d+1)⟩ jl ⟨fun _=>none,H⟩->∃ w4,(Instr.endRound (d+1) jump).run P w3 = .ok (.bool jump.isNone) w4/\At (if jump.isNone then .ready else .done) jump H w4/\Kept (fun b=>jz vz b\/GB G b) W w4:=fun jump H himp=>by
    obtain⟨Vh,Rh,X8⟩:=himp w3 μ3 a3 in3;have B2:=(Yb.trans (X8.but (d+1))).trans (.put (jx fx) w3 Vh (d+1) (.loop (rec (if jump.isNone then .ready else .done) jump)));refine⟨w3.putObj (d+1) (.loop (rec (if jump.isNone then .ready else .done) jump)),?_,⟨⟨Vh,?_,?_⟩,World.putObj_heap_same ot,(World.putObj_heap_other aa).trans eG⟩,B2.size,fun b hb=>?_⟩
    .have:=run_endRound (P:=P) jump Qv;rw[ym]at this ⊢;exact this
    .have QU:=(Rh.turn (N':=⟨n,[],some (d+1)⟩) (X':=X') (w':=w3.putObj (d+1) (.loop (rec (if jump.isNone then .ready else .done) jump))) (fun b hb=>.inl hb) (fun b hb hx=>World.putObj_heap_other fun e=>hx (e ▸ lv)) ak Rh.env.defers rfl rfl)
     exact⟨QU.bq,⟨aO.env.defers,aO.env.size,fun i x hx=>by
      obtain⟨u,hu,hr⟩:=aO.env.slot i x hx
      exact⟨u,hu,hr.Ea (he1 i x hx).1 B2 lv fun b hb=>hb⟩⟩,QU.jf⟩
    .exact ((aW.but (d+1)).trans B2).ev aa
    .rcases hb with hb | hb
     .exact (B2.same b (by have:=Ft b hb;omega) (fun e=>by have:=Ft b hb;omega) (pS aO.bq (.inl (.inr hb)))).1
     .obtain⟨h1,h2⟩:=H6 aO.jf hb;exact (B2.same b h2 (fun e=>h1 (.inl (e ▸ lv))) fun hr=>h1 (.inr hr)).1
   cases e with
   | normal=>
    obtain⟨ga,q3⟩:=q3;obtain⟨w4,h1,h2,h3⟩:=fin none _ q3;exact⟨_,w4,h1,.inl ⟨rfl,⟨ga,h2⟩,h3⟩⟩
   | ret=>
    obtain⟨H,himp,hq⟩:=q3;obtain⟨w4,h1,h2,_⟩:=fin (some .ret) H himp;exact⟨_,w4,h1,.inr ⟨rfl,.ret,H,.inl ⟨rfl,hq⟩,h2⟩⟩
   | exit id=>
    obtain⟨H,himp,hq⟩:=q3;obtain⟨w4,h1,h2,_⟩:=fin (some (.exit id)) H himp;exact⟨_,w4,h1,.inr ⟨rfl,.exit id,H,.inr ⟨id,rfl,hq⟩,h2⟩⟩
   | _=>exact q3.elim
  | _=>exact q1.elim
 refine⟨d+1,[mark d],W1,{ target:=.fn (.func gf) lb,args:=#[.func (.yield (d+1)) #[] #[]] },W1,gf,#[.func (.yield (d+1)) #[] #[]] ++ lb,W1,?_,?_,fun _ _=>trivial,?_,fun e=>(by cases e),U5 (Calls.mono
  (hit (d+1) (fun k W=>ok k/\At .ready none (inv k) W) Jx
   (fun k W W' h fJ=>⟨h.1,Pp _ _ _ W W' h.2 fJ⟩) (fun W W' ⟨c,H,hq,h⟩ fJ=>⟨c,H,hq,Pp _ _ _ W W' h fJ⟩) aaR W1 ⟨uZ.size,fun b hb=>uZ.same b (hb.elim (fun h=>by have:=Ft b h;omega) fun h=>by have:=(H6 hi.jf h).2;omega)⟩ ⟨aaE,⟨_,gJ,Z9⟩,xN,aF⟩) ?_)⟩
 .rw[<- Cs,ym];have:=run_enterLoop_outer (P:=P) (w:=w) fn a.tmps #[p] assign body;rw[hD]at this;exact this
 .simp only[resolve,om];simp[go_sem]
 .have:=hF;simp[invoke,go_sem,hF _ W1]
 .rintro e W2 ⟨⟨v,rfl⟩,hJ⟩
  have out:∀ st pe H,st≠.busy->At st pe H W2->∃ w4,(Instr.endLoop (d+1)).run P W2 = .ok pe w4/\∀ q:Exit,Q q ⟨e1,H⟩->NR Mv X G n s w μ Q q { a with defers:=[mark d] ++ a.defers } w4:=by
   rintro st pe H eL ⟨⟨aI,aO,aW⟩,hl,hk⟩;have aH:d+1 < W2.heap.size:=(abi.1 hl).1;refine⟨W2.putObj (d+1) (.loop { rec st pe with state:=.exhausted }),?_,fun q hq=>⟨d :: ds,aI,⟨e1,H⟩,hq,⟨?_,?_,?_⟩,?_,?_⟩⟩
   .have:=run_endLoop (P:=P) hl (by rw[ym];exact eL);rw[ym]at this ⊢;exact this
   .exact akB.2 ⟨fun h=>by have:=(abi.1 (hm.Bh d h)).1;omega,hm.nodup⟩
   .intro x hx
    rcases ajX.1 hx with rfl | hx
    .omega
    .exact hm.new x hx
   .intro x hx
    rcases ajX.1 hx with rfl | hx
    .exact (World.putObj_heap_other aa).trans hk
    .have h0:=(abi.1 (hm.Bh x hx)).1;have h1:=aW.same x h0 fun ⟨r,m,h1,h2⟩=>hi.bq.frame r m x h1 h2 (.inr hx);exact (World.putObj_heap_other aa).trans (h1.1.trans (hm.Bh x hx))
   .refine aO.turn (fun b hb=>.inl ?_) (fun b hb hx=>World.putObj_heap_other fun e=>hx (.inr (.inr e))) ak ?_ rfl rfl
    .rcases hb with hb | hb
     .exact .inl (.inl (.inl hb))
     .rcases ajX.1 hb with rfl | hb
      .exact .inr (.inl rfl)
      .exact .inl (.inl (.inr hb))
    .show [mark d] ++ a.defers=(d :: ds).map mark;rw[aO.env.defers];rfl
   .refine (((aW.but (d+1)).trans (.put _ _ _ _ _)).ev aa).weaken fun q m _ hq=>Y7 q hq
  rcases hJ with⟨aaF,hJ⟩ | ⟨c,H,hq,hJ⟩
  .obtain⟨w4,h1,h2⟩:=out _ _ _ ak hJ;exact⟨none,w4,h1,h2 .normal (Z1 aaF)⟩
  .obtain⟨w4,h1,h2⟩:=out _ _ _ ak hJ;refine⟨some c,w4,h1,?_⟩
   rcases hq with⟨rfl,hq⟩ | ⟨id,rfl,hq⟩
   .exact wpIn_ret (h2 .ret hq)
   .exact wpIn_exit (h2 (.exit id) hq)
end
