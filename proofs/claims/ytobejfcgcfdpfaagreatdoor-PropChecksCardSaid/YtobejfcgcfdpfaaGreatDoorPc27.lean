/- Parts. -/
import Derived.Test.YtobejfcgcfdpfaaGreatDoorPc10
import Derived.RangeFuncSeq
set_option linter.unusedSectionVars false
set_option linter.unusedSimpArgs false
set_option linter.unusedVariables false
set_option maxHeartbeats 1000000
namespace Go.Av
def mark (d:Nat):Deferred:={ target:=.collected d,args:=#[] }
structure Marks (s:Nat) (w:World) (ds:List Nat):Prop where
 nodup:ds.Nodup
 new:∀ d∈ds,s<=d
 CA:∀ d∈ds,w.heap[d]? = some (.deferred (some []))
def XD (X:Nat->Prop) (ds:List Nat) (b:Nat):Prop:=X b\/b∈ds
structure s3 (l:Nat) (Mv:Nat->Prop) (w:World) (μ:Mu) (w':World) (aI:Mu):Prop where
 size:w.heap.size<=w'.heap.size
 os:w'.os=w.os
 tape:w'.tape=w.tape
 output:w'.output=w.output
 same:∀ b,b < w.heap.size->b≠l->¬ jU μ b->w'.heap[b]? = w.heap[b]?/\¬ jU aI b
 kept:∀ r m,μ r=some m->¬ Mv r->aI r=some m
theorem Ev.but {Mv:Nat->Prop} {w w':World} {μ aI:Mu} (h:Ev Mv w μ w' aI) (l:Nat):s3 l Mv w μ w' aI:=⟨h.size,h.os,h.tape,h.output,fun b hb _ hr=>h.same b hb hr,h.kept⟩
theorem s3.trans {l:Nat} {Mv:Nat->Prop} {w w1 w2:World} {μ mY ku:Mu} (h:s3 l Mv w μ w1 mY) (h':s3 l Mv w1 mY w2 ku):s3 l Mv w μ w2 ku:=
 ⟨anQ h.size h'.size,h'.os.trans h.os,h'.tape.trans h.tape,h'.output.trans h.output,fun b hb hl hr=>
  have h1:=h.same b hb hl hr;have h2:=h'.same b (amN hb h.size) hl h1.2
  ⟨h2.1.trans h1.1,h2.2⟩,fun r m hm hn=>h'.kept r m (h.kept r m hm hn) hn⟩
theorem s3.put (Mv:Nat->Prop) (w:World) (μ:Mu) (l:Nat) (o:Obj):s3 l Mv w μ (w.putObj l o) μ:=
 ⟨ak,rfl,rfl,rfl,fun b _ hl hr=>⟨World.putObj_heap_other hl,hr⟩,fun _ _ h _=>h⟩
theorem s3.ev {l:Nat} {Mv:Nat->Prop} {w w':World} {μ aI:Mu} (h:s3 l Mv w μ w' aI) (hl:w.heap.size<=l):Ev Mv w μ w' aI:=
 ⟨h.size,h.os,h.tape,h.output,fun b hb hr=>h.same b hb aa hr,h.kept⟩
section
variable {P:Program} {T:Ty} {Mv X:Nat->Prop} {G:aB} {N:Fr} {w w':World} {μ:Mu} {a:Act} {σ:St}
theorem In.turn {N':Fr} {X':Nat->Prop} {a':Act} (hi:In w X G μ N a σ) (hX:∀ b,X' b->X b\/(w.heap.size<=b/\b < w'.heap.size)) (uL:∀ b,b < w.heap.size->¬ X b->w'.heap[b]? = w.heap[b]?) (bp:w.heap.size<=w'.heap.size)
  (hd:a'.defers=N'.ds) (hn:N'.n=N.n) (ht:a'.tmps=a.tmps):In w' X' G μ N' a' σ:=by
 have hD:∀ u d,RD w (XX X μ) u d->RD w' (XX X' μ) u d:=fun u d h=>h.mono bp fun b hb br=>
  ⟨uL b hb fun e=>br (.inl e),fun e=>br (e.elim (fun e=>(hX b e).elim .inl fun ⟨h,_⟩=>absurd hb (Nat.not_lt.2 h)) .inr)⟩
 refine⟨⟨fun r row hr=>?_,hi.bx.l5,hi.bx.inj,fun r m b hr hb hx=>?_,fun b hb=>?_⟩,⟨hd,by rw[ht,hn];exact hi.env.size,fun i x hx=>?_⟩,fun g x hx=>hD _ _ (hi.jA g x hx)⟩
 .obtain⟨m,hm,ok⟩:=hi.bx.rows r row hr;exact⟨m,hm,ok.lift (fun b hb=>uL b (ok.nP hb) (hi.bx.frame r m b hm hb)) hD fun _ _ h=>h⟩
 .have aG:=hi.bx.nP ⟨r,m,hr,hb⟩;exact (hX b hx).elim (hi.bx.frame r m b hr hb) fun ⟨h,_⟩=>absurd aG (Nat.not_lt.2 h)
 .exact (hX b hb).elim (fun h=>amN (hi.bx.fits b h) bp) (·.2)
 .obtain⟨u,hu,hr⟩:=hi.env.slot i x hx;exact⟨u,by rw[ht];exact hu,hr.lift hD fun _ _ h=>h⟩
theorem Marks.ev {s:Nat} {ds:List Nat} {H:Heap} {aI:Mu} (hm:Marks s w ds) (hs:eT w (XD X ds) μ H) (ev:Ev Mv w μ w' aI):Marks s w' ds:=
 ⟨hm.nodup,hm.new,fun d hd=>(ev.same d (amf.1 (hm.CA d hd)).1 fun ⟨r,m,hr,hb⟩=>hs.frame r m d hr hb (.inr hd)).1.trans (hm.CA d hd)⟩
def Qb (Mv X:Nat->Prop) (G:aB) (n s:Nat) (w:World) (μ:Mu) (Q:Exit->St->Prop) (e:Exit) (a':Act) (w':World):Prop:=
 ∃ ds aI aH,Q e aH/\Marks s w' ds/\In w' (XD X ds) G aI ⟨n,ds.map mark,none⟩ a' aH/\Ev Mv w μ w' aI
def gM (P:Program) (Mv X:Nat->Prop) (G:aB) (n s:Nat) (c:Code) (Q:Exit->St->Prop) (σ:St):Prop:=
 ∀ ds w μ a,s<=w.heap.size->Marks s w ds->In w (XD X ds) G μ ⟨n,ds.map mark,none⟩ a σ->c.wpIn (wd none) 0 P (Qb Mv X G n s w μ Q) a w
theorem FY {n s:Nat} {c:Code} {Q:Exit->St->Prop} (h:∀ X' ds,AW P Mv X' G ⟨n,ds,none⟩ c Q σ):gM P Mv X G n s c Q σ:=fun ds w μ a hs hm hi=>
 wpIn_mono (h (XD X ds) _ w μ a hi) fun e a' w' ⟨aI,aH,q,i,ev⟩=>⟨ds,aI,aH,q,hm.ev hi.bx ev,i,ev⟩
theorem gM.imp {n s:Nat} {c:Code} {Q:Exit->St->Prop} {τ:St} (hi:∀ X' ds,aL Mv X' G ⟨n,ds,none⟩ σ τ) (h:gM P Mv X G n s c Q τ):gM P Mv X G n s c Q σ:=fun ds w μ a hs hm aR=>by
 obtain⟨mY,h1,e1⟩:=hi (XD X ds) _ w μ a aR;exact wpIn_mono (h ds w mY a hs hm h1) fun e a' w' ⟨jd,aI,aH,q,m,i,ev⟩=>⟨jd,aI,aH,q,m,i,e1.trans ev⟩
theorem FZ {n s:Nat} {x y:Code} {Q:Exit->St->Prop} (h:gM P Mv X G n s x (aT (gM P Mv X G n s y Q) Q) σ):gM P Mv X G n s (.seq x y) Q σ:=fun ds w μ a hs hm hi=>
 wpIn_seq (wpIn_mono (h ds w μ a hs hm hi) fun e a' w' ⟨jd,aI,aH,q,m,i,ev⟩=>by
  cases e with
  | normal=>exact wpIn_mono (q jd w' aI a' (anQ hs ev.size) m i) fun e2 a2 w2 ⟨ds2,ku,iB,q2,m2,i2,za⟩=>⟨ds2,ku,iB,q2,m2,i2,ev.trans za⟩
  | _=>exact⟨jd,aI,aH,q,m,i,ev⟩)
theorem Yb {n s id:Nat} {c:Code} {Q:Exit->St->Prop} (h:gM P Mv X G n s c (aW id Q) σ):gM P Mv X G n s (.block id c) Q σ:=fun ds w μ a hs hm hi=>
 wpIn_block (wpIn_mono (h ds w μ a hs hm hi) fun e a' w' ⟨jd,aI,aH,q,m,i,ev⟩=>by
  cases e with
  | exit Ia=>
   simp only[aW]at q;simp only[Exit.inBlock];split
   .rename_i he;rw[if_pos he]at q;exact⟨jd,aI,aH,q,m,i,ev⟩
   .rename_i he;rw[if_neg he]at q;exact⟨jd,aI,aH,q,m,i,ev⟩
  | _=>exact⟨jd,aI,aH,q,m,i,ev⟩)
theorem aer {fn:Func} {tmps:Array Value} {R:Ending->World->Prop}:∀ (ds:List Nat) (w:World),ds.Nodup->(∀ d∈ds,w.heap[d]? = some (.deferred (some [])))->
  (∀ w',w'.heap.size=w.heap.size->w'.os=w.os->w'.tape=w.tape->w'.output=w.output->(∀ b,b ∉ ds->w'.heap[b]? = w.heap[b]?)->∃ v,(results fn tmps).run P w' = .ok v w'/\R (.returned v) w')->
  LeavesInM (wd none) 0 P fn tmps R (ds.map mark) .returning w:=by
 intro ds
 induction ds with
 | nil=>
  intro w _ _ h;obtain⟨v,hv,hR⟩:=h w rfl rfl rfl rfl fun _ _=>rfl;show LeavesIn (wd none) 0 P fn tmps R [] .returning w;exact⟨v,hv,hR⟩
 | cons d ds ih=>
  intro w hn ho h;obtain⟨hd,hn⟩:=anf.1 hn;refine⟨ak,.inl ⟨d,w.putObj d (.deferred none),rfl,run_takeDeferred (ho d ak),ih _ hn (fun e he=>?_) fun w' h1 h2 h3 h4 h5=>?_⟩⟩
  .rw[World.putObj_heap_other (fun e':e=d=>hd (by rw[<- e'];exact he))];exact ho e (by simp[he])
  .refine h w' (by simpa using h1) h2 h3 h4 fun b hb=>?_;rw[h5 b (fun e=>hb (by simp[e])),World.putObj_heap_other (fun e=>hb (by simp[e]))]
theorem In.shut {n:Nat} {ds:List Nat} (hi:In w (XD X ds) G μ ⟨n,ds.map mark,none⟩ a σ) (h1:w'.heap.size=w.heap.size) (h5:∀ b,b ∉ ds->w'.heap[b]? = w.heap[b]?):In w' X G μ ⟨n,[],none⟩ { a with defers:=[] } σ:=
 hi.turn (fun b hb=>.inl (.inl hb)) (fun b _ hb=>h5 b fun e=>hb (.inr e)) aa rfl rfl rfl
theorem Ev.shut {s:Nat} {w0:World} {lY:Mu} {ds:List Nat} (h:Ev Mv w0 lY w μ) (hm:Marks s w ds) (hs:w0.heap.size<=s) (h1:w'.heap.size=w.heap.size) (h2:w'.os=w.os) (h3:w'.tape=w.tape) (h4:w'.output=w.output) (h5:∀ b,b ∉ ds->w'.heap[b]? = w.heap[b]?):Ev Mv w0 lY w' μ:=
 ⟨by have:=h.size;omega,h2.trans h.os,h3.trans h.tape,h4.trans h.output,fun b hb hr=>by
  have h6:=h.same b hb hr
  exact⟨(h5 b fun e=>by have:=hm.new b e;omega).trans h6.1,h6.2⟩,h.kept⟩
theorem aD.afr (hg:Good P T) {g:FuncId} {fn:Func} {c:Code} {rs:List ResultVar} {ds:List D} {y:D} (hf:P.funcs[g]? = some fn) (hb:fn.body=some c) (hn:(fn.name == "runtime.NumGoroutine")=false) (nE:fn.results=rs.toArray)
  (hN:ds.length<=fn.ntmps) (h:∀ X s,gM P (fun _=>True) X G fn.ntmps s c (Kh T rs y) ⟨args (ds.map .d),ji⟩):aD P G g ds y:=by
 refine⟨iV.of hf hb hn,fun X w μ vs hs cW bp hv=>?_⟩
 refine (callsIn_wide (n:=0)).1 (callsIn_of_wp_marks hf hb trivial (wpIn_mono (h X w.heap.size [] w μ _ (amh _) ⟨List.nodup_nil,ak,ak⟩
  (In.turn (X:=X) (N:=⟨fn.ntmps,[],none⟩) (a:={ tmps:=vs ++ Array.replicate (fn.ntmps - vs.size) undef,defers:=[] }) ⟨hs,⟨rfl,by simp;simp at bp;omega,fun i x hx=>?_⟩,cW⟩ (fun b hb=>.inl (hb.elim id ak)) (fun _ _ _=>rfl) (amh _) rfl rfl rfl)) fun e a' w' ⟨jd,aI,aH,q,hm,i,ev⟩=>?_))
 .simp only[args]at hx;have hi:i < (ds.map AV.d).length:=(BY.1 hx).1
  have xS:vs[i]? = some vs[i]:=by rw[amA]
  exact⟨vs[i],by rw[amY aa,xS],hv i _ x xS hx⟩
 .have fin:Bh T rs y aH->LeavesInM (wd none) 0 P fn a'.tmps (fun e w'=>∃ v x H' aI,e = .returned v/\(x = .d y/\H'=ji)/\RV w' X aI v x/\eT w' X aI H'/\Ev (fun _=>True) w μ w' aI) a'.defers .returning w':=fun he=>by
   rw[i.env.defers];refine aer jd w' hm.nodup hm.CA fun w2 h1 h2 h3 h4 h5=>?_;have hi:=i.shut h1 h5;have bd:=ev.shut hm (amh _) h1 h2 h3 h4 h5;unfold Bh at he;split at he
   .rename_i c xs hx;obtain⟨hc,he⟩:=he;split at he
    .rename_i y' hy;obtain⟨v,hv,hr⟩:=OY (P:=P) hg hi nE hx hc;have bQ:=(F8 hi.bx 6 hy hr).le he;refine⟨v,hv,v,.d y,ji,fun _=>none,rfl,⟨rfl,rfl⟩,.d (bQ.sub fun b=>qv.1),eT.none hi.bx.fits,bd.size,bd.os,bd.tape,bd.output,fun b hb hr=>⟨(bd.same b hb hr).1,fun ⟨_,_,h,_⟩=>by cases h⟩,fun r m _ hn=>absurd trivial hn⟩
    .exact he.elim
   .exact he.elim
  cases e with
  | normal=>exact fin q
  | ret=>exact fin q
  | _=>exact q.elim
structure Grown (B:Nat->Prop) (w w':World):Prop where
 size:w.heap.size<=w'.heap.size
 os:w'.os=w.os
 tape:w'.tape=w.tape
 output:w'.output=w.output
 same:∀ b,b < w.heap.size->¬ B b->w'.heap[b]? = w.heap[b]?
structure Kept (B:Nat->Prop) (w w':World):Prop where
 size:w.heap.size<=w'.heap.size
 same:∀ b,B b->w'.heap[b]? = w.heap[b]?
def GB (G:aB) (b:Nat):Prop:=∃ x,G b=some x/\((∃ l,x = .ip l)\/∃ cs,x = .ra cs)
theorem J1 {G:aB} {w:World} {X:Nat->Prop} (cW:∀ g x,G g=some x->RD w X (.pointer (some ⟨g,0,none⟩)) x) {b:Nat} (h:GB G b):¬ X b/\b < w.heap.size:=by
 obtain⟨x,hx,h | h⟩:=h
 .obtain⟨l,rfl⟩:=h;have h1:=cW _ _ hx;generalize hy:D.ip l=y at h1;generalize hv:Value.pointer (some ⟨b,0,none⟩)=v at h1;cases h1<;>cases hy;rename_i hX hb _ _;injection hv with hv;injection hv with hv;injection hv with hv;subst hv;exact⟨hX,hb⟩
 .obtain⟨cs,rfl⟩:=h;have h1:=cW _ _ hx;generalize hy:D.ra cs=y at h1;generalize hv:Value.pointer (some ⟨b,0,none⟩)=v at h1;cases h1<;>cases hy;rename_i hX hb;injection hv with hv;injection hv with hv;injection hv with hv;subst hv;exact⟨hX,(amf.1 hb).1⟩
def Qd (P:Program) (gf:FuncId) (lb:Array Value) (B C:Nat->Prop) (xs:List Value) (w0:World):Prop:=
 ∀ (l:Nat) (J:Nat->World->Prop) (Jx:World->Prop),(∀ k W W',J k W->Grown B W W'->J k W')->(∀ W W',Jx W->Grown B W W'->Jx W')->
  (∀ k (hk:k < xs.length) W,J k W->YieldAt (wd none) 0 P l #[xs[k]] W fun e W'=>(e = .returned (.bool true)/\J (k+1) W'/\Kept C W W')\/(e = .returned (.bool false)/\Jx W'))->
  ∀ w1,Kept C w0 w1->J 0 w1->Calls P gf (#[.func (.yield l) #[] #[]] ++ lb) w1 fun e W'=>(∃ v,e = .returned v)/\(J xs.length W'\/Jx W')
def qR (it:List Nat) (q:Nat):Bool:=!it.contains q
def Ak (it:List Nat) (q off n:Nat):AV:=if it.contains q then .dead else .own q off n
def ya (it:List Nat) (q e j:Nat):AV:=if it.contains q then .dead else .ref q e j
theorem In.rest {e0:Env} {H0:Heap} (it:List Nat) (hi:In w X G μ N a ⟨e0,H0⟩):In w (XX X (cJ it.contains μ)) G (cJ (qR it) μ) N a ⟨fun i=>(e0 i).map (AV.tr (Ak it) (ya it)),fi (qR it) (Ak it) (ya it) H0⟩:=by
 have BB:∀ b,XX (XX X (cJ it.contains μ)) (cJ (qR it) μ) b->XX X μ b:=fun b hb=>hb.elim (fun hb=>hb.elim .inl fun h=>.inr (u0 h)) fun h=>.inr (u0 h);have hD:∀ u d,RD w (XX X μ) u d->RD w (XX (XX X (cJ it.contains μ)) (cJ (qR it) μ)) u d:=fun u d h=>h.sub BB
 have hm:∀ q m,it.contains q=false->μ q=some m->cJ (qR it) μ q=some m:=fun q m hk h=>by simp only[cJ,qR,hk,anl,if_true];exact h
 have hV:∀ u x,RV w X μ u x->RV w (XX X (cJ it.contains μ)) (cJ (qR it) μ) u (x.tr (Ak it) (ya it)):=fun u x=>RV.AN hD (fun u r off n h=>by
   unfold Ak;split
   .exact .dead u
   .rename_i hk;obtain⟨m,h1,h2⟩:=h.ml
    exact .own (hm r m (by simpa using hk) h1) h2) (fun u r e j h=>by
   unfold ya;split
   .exact .dead u
   .rename_i hk;obtain⟨m,b,h1,h2,rfl⟩:=h.mo
    exact .ref (hm r m (by simpa using hk) h1) h2)
 refine⟨⟨fun r row hr=>?_,fun r m hr=>?_,fun q q' m1 m2 b h1 h2 e9 fk=>hi.bx.inj q q' m1 m2 b (ll h1).2 (ll h2).2 e9 fk,fun q m b hq hb hX=>?_,fun b hb=>hb.elim (hi.bx.fits b) fun h=>hi.bx.nP (u0 h)⟩,⟨hi.env.defers,hi.env.size,fun i x hx=>?_⟩,fun g x hx=>hD _ _ (hi.jA g x hx)⟩
 .dsimp only[fi]at hr;split at hr
  .rename_i hk;obtain⟨qo,h0,rfl⟩:=AS.1 hr;obtain⟨m,h1,ok⟩:=hi.bx.rows r qo h0;exact⟨m,hm r m (by simpa[qR]using hk) h1,ok.AN (fun _ _=>rfl) hD hV⟩
  .cases hr
 .obtain⟨hk,h1⟩:=ll hr;obtain⟨row,h0⟩:=hi.bx.l5 r m h1;exact⟨row.tr (Ak it) (ya it),by dsimp only[fi];rw[if_pos hk];dsimp only at h0;rw[h0];rfl⟩
 .obtain⟨hk,h1⟩:=ll hq
  rcases hX with h | ⟨q',m',p8,br⟩
  .exact hi.bx.frame q m b h1 hb h
  .obtain⟨gX,GZ⟩:=ll p8;obtain rfl:=hi.bx.inj q q' m m' b h1 GZ hb br;simp only[qR,gX,Bool.not_true,amn]at hk
 .obtain⟨y,hy,rfl⟩:=AS.1 hx;obtain⟨u,hu,hr⟩:=hi.env.slot i y hy;exact⟨u,hu,hV u y hr⟩
def FK (fx:List Nat):AV->Prop
 | .d _=>True
 | .ref r _ _=>fx.contains r=true
 | _=>False
def aiC (P:Program) (X:Nat->Prop) (G:aB) (N:Fr) (fx:List Nat) (Q:Exit->St->Prop) (e1:Env) (next:Heap) (nx:Prop):Exit->St->Prop
 | .normal,σ=>nx/\aL (jS fx) X G N σ ⟨fun _=>none,next⟩
 | .ret,σ=>∃ H,aL (jS fx) X G N σ ⟨fun _=>none,H⟩/\Q .ret ⟨e1,H⟩
 | .exit id,σ=>∃ H,aL (jS fx) X G N σ ⟨fun _=>none,H⟩/\Q (.exit id) ⟨e1,H⟩
 | _,_=>False
theorem RV.FK {X X':Nat->Prop} {l:Nat} {μ aI:Mu} {fx:List Nat} {u:Value} {x:AV} (hs:FK fx x) (ev:s3 l (jS fx) w μ w' aI) (hl:X l) (hX:∀ b,X' b->X b) (hr:RV w X μ u x):RV w' X' aI u x:=by
 cases x with
 | d x=>exact .d (hr.data.mono ev.size fun b hb br=>by
   have h:=ev.same b hb (fun e=>br (.inl (e ▸ hl))) fun e=>br (.inr e)
   exact⟨h.1,fun e=>e.elim (fun e=>br (.inl (hX b e))) h.2⟩)
 | ref r e j=>
  obtain⟨m,b,hm,hb,rfl⟩:=hr.mo;exact .ref (ev.kept r m hm (by unfold jS;unfold Av.FK at hs;rw[hs];simp)) hb
 | _=>exact hs.elim
theorem Yc {n s:Nat} {g:Operand} {p:Tmp} {assign body:Code} {Q:Exit->St->Prop} {e0:Env} {H0:Heap} {gf:FuncId} {caps:List AV} (xs:List Value) (it fx:List Nat) (e1:Env) (inv:Nat->Heap) (ok:Nat->Prop) (acN:ok 0)
  (hg:bJ G e0 g=some (.fn (.func gf) caps)) (hF:iV P gf) (hp:p < n)
  (hIt:∀ (w:World) (X:Nat->Prop) (μ:Mu) (lb:Array Value),eT w X μ (fi it.contains (fY it) (fX it) H0)->(∀ g x,G g=some x->RD w (XX X μ) (.pointer (some ⟨g,0,none⟩)) x)->lb.size=caps.length->(∀ (i:Nat) (u:Value) (x:AV),lb[i]? = some u->caps[i]? = some x->RV w X μ u (x.tr (fY it) (fX it)))->Qd P gf lb (jU μ) (fun b=>jU μ b\/GB G b) xs w)
  (he1:∀ i x,e1 i=some x->FK fx x/\∃ y,e0 i=some y/\y.tr (Ak it) (ya it)=x) (hH:fi (qR it) (Ak it) (ya it) H0=inv 0) (hMv:∀ q,jS fx q->Mv q) (hfx:∀ q,fx.contains q=true->it.contains q=false)
  (ac1:∀ X' l k (hk:k < xs.length),ok k->AW P (jS fx) X' G ⟨n,[],some l⟩ assign (aT (AW P (jS fx) X' G ⟨n,[],some l⟩ body (aiC P X' G ⟨n,[],some l⟩ fx Q e1 (inv (k+1)) (ok (k+1)))) (fun _ _=>False)) ⟨iz e1 p (.d (.v xs[k])),inv k⟩)
  (ab9:ok xs.length->Q .normal ⟨e1,inv xs.length⟩):gM P Mv X G n s (.rangeFunc g #[p] assign body) Q ⟨e0,H0⟩:=by
 intro ds w μ a B5 hm hi
 obtain⟨lb,py,tG,xH⟩:∃ lb:Array Value,a.eval g = .func (.func gf) #[] lb/\lb.size=caps.length/\∀ (i:Nat) (u:Value) (x:AV),lb[i]? = some u->caps[i]? = some x->RV w (XD X ds) μ u x:=by
  have h:=hi.eval hg;generalize a.eval g=v at h ⊢
  cases h with
  | fn hn hr=>exact⟨_,rfl,hn,hr⟩
 have df:=hi.rest it;obtain⟨MX,oo⟩:=hi.bx.part it;have hit:=hIt w _ _ lb MX (fun g x hx=>(hi.jA g x hx).sub fun b=>J7.1) tG fun i u x hu hx=>oo (xH i u x hu hx);generalize hB:cJ it.contains μ=wX at df MX hit;have RZ:∀ b,jU wX b->jU μ b:=fun b h=>u0 (hB ▸ h);have G5:∀ b,jU wX b->b < w.heap.size:=fun b h=>hi.bx.nP (RZ b h);rw[hH]at df
 have fV:In w (XX (XD X ds) wX) G (cJ (qR it) μ) ⟨n,ds.map mark,none⟩ a ⟨e1,inv 0⟩:=⟨df.bx,⟨df.env.defers,df.env.size,fun i x hx=>by
  obtain⟨_,y,hy,rfl⟩:=he1 i x hx
  exact df.env.slot i _ (by dsimp only;rw[hy];rfl)⟩,df.jA⟩
 clear df oo MX;refine wpIn_rangeFunc fun fn _=>?_;generalize hD:w.heap.size=d at *;obtain⟨rec,zM⟩:∃ rec:LoopState->Option Code->Loop,rec=fun st pe=>{ state:=st,pending:=pe,fn,tmps:=a.tmps,params:=#[p],assign,body,defers:=d }:=⟨_,rfl⟩;obtain⟨W1,zq⟩:∃ W1,(w.alloc (.deferred (some []))).alloc (.loop (rec .ready none))=W1:=⟨_,rfl⟩
 have Cb:W1.heap.size=d+2:=by rw[<- zq];simp;omega
 have wa:cX w W1:=by
  rw[<- zq];have h1:=cX.alloc w (.deferred (some []));have h2:=cX.alloc (w.alloc (.deferred (some []))) (.loop (rec .ready none));exact⟨anQ h1.size h2.size,h2.os.trans h1.os,h2.tape.trans h1.tape,h2.output.trans h1.output,fun b hb=>(h2.same b (amN hb h1.size)).trans (h1.same b hb)⟩
 have zj:W1.heap[d+1]? = some (.loop (rec .ready none)):=by
  rw[<- zq];have:=World.alloc_heap_new (w.alloc (.deferred (some []))) (.loop (rec .ready none));rwa [World.size_alloc,hD]at this
 have aF:W1.heap[d]? = some (.deferred (some [])):=by
  rw[<- zq,(cX.alloc (w.alloc (.deferred (some []))) (.loop (rec .ready none))).same d (by simp;omega),<- hD];exact World.alloc_heap_new w _
 let X':Nat->Prop:=fun b=>XX (XD X ds) wX b\/b=d\/b=d+1
 have ak3:∀ b,XX (XD X ds) wX b->b < d:=fun b hb=>by have:=fV.bx.fits b hb;omega
 have gx:In W1 X' G (cJ (qR it) μ) ⟨n,ds.map mark,none⟩ a ⟨e1,inv 0⟩:=fV.turn (fun b hb=>hb.elim .inl fun hb=>.inr aa) (fun b hb _=>wa.same b hb) wa.size fV.env.defers rfl rfl
 have acg:Ev (jS fx) w μ W1 (cJ (qR it) μ):=⟨wa.size,wa.os,wa.tape,wa.output,fun b hb hr=>⟨wa.same b hb,fun h=>hr (u0 h)⟩,fun q m hq hn=>by
  have hfq:fx.contains q=true:=by
   cases h:fx.contains q with
   | true=>rfl
   | false=>exact absurd h hn
  simp only[cJ,qR,hfx q hfq,anl,if_true];exact hq⟩
 let At (st:LoopState) (pe:Option Code) (H:Heap) (W:World):Prop:=(∃ aI,In W X' G aI ⟨n,ds.map mark,none⟩ a ⟨e1,H⟩/\Ev (jS fx) w μ W aI)/\W.heap[d+1]? = some (.loop (rec st pe))/\W.heap[d]? = some (.deferred (some []))
 have RM:∀ st pe H W W',At st pe H W->Grown (jU wX) W W'->At st pe H W':=by
  rintro st pe H W W' ⟨⟨aI,aR,bd⟩,hl,hk⟩ gm;have aG:d+1 < W.heap.size:=(amf.1 hl).1
  have Tk:∀ b,d<=b->¬ jU wX b:=fun b hb h=>by have:=G5 b h;omega
  refine⟨⟨aI,aR.turn (fun b hb=>.inl hb) (fun b hb hx=>gm.same b hb fun h=>hx (.inl (.inr h))) gm.size aR.env.defers rfl rfl,⟨anQ bd.size gm.size,gm.os.trans bd.os,gm.tape.trans bd.tape,gm.output.trans bd.output,fun b hb hr=>?_,bd.kept⟩⟩,(gm.same _ aG (Tk _ aa)).trans hl,(gm.same _ aa (Tk _ (amh _))).trans hk⟩;have h:=bd.same b hb hr;exact⟨(gm.same b (amN hb bd.size) fun hh=>hr (RZ b hh)).trans h.1,h.2⟩
 let Jx:World->Prop:=fun W=>∃ (c:Code) (H:Heap),((c=Code.ret/\Q .ret ⟨e1,H⟩)\/∃ id,c=Code.exit id/\Q (.exit id) ⟨e1,H⟩)/\At .done (some c) H W
 have ac2:∀ k (hk:k < xs.length) W,ok k/\At .ready none (inv k) W->YieldAt (wd none) 0 P (d+1) #[xs[k]] W fun e W'=>
   (e = .returned (.bool true)/\(ok (k+1)/\At .ready none (inv (k+1)) W')/\Kept (fun b=>jU wX b\/GB G b) W W')\/(e = .returned (.bool false)/\Jx W'):=by
  rintro k hk W ⟨acP,⟨aI,aR,bd⟩,hl,hkD⟩;have aG:d+1 < W.heap.size:=(amf.1 hl).1;have hy:=run_yield (P:=P) (args:=#[xs[k]]) hl (by rw[zM];rfl);rw[zM]at hy;refine⟨fn,_,assign,body,hy,roundIn_of_wpIn (F:=wd none) trivial ?_⟩;clear hy
  have acj:(((#[p]:Array Tmp).zip #[xs[k]]).foldl (fun tmps (t,a)=>tmps.setIfInBounds t a) a.tmps)=a.tmps.setIfInBounds p xs[k]:=ak
  show assign.wpIn (wd (some (d+1))) 0 P _ { tmps:=(((#[p]:Array Tmp).zip #[xs[k]]).foldl (fun tmps (t,a)=>tmps.setIfInBounds t a) a.tmps),defers:=[] } W;rw[acj];have bp:=aR.env.size
  have acn:In W X' G aI ⟨n,[],some (d+1)⟩ { tmps:=a.tmps.setIfInBounds p xs[k],defers:=[] } ⟨iz e1 p (.d (.v xs[k])),inv k⟩:=⟨aR.bx,⟨rfl,by simpa using bp,fun i x hx=>by
   simp only[iz]at hx;split at hx
   .rename_i e;obtain rfl:=AI hx
    have:p < a.tmps.size:=by rw[bp];exact hp
    exact⟨xs[k],by rw[e];simp[this],.d (.v _)⟩
   .rename_i e;obtain⟨u,hu,hr⟩:=aR.env.slot i x hx
    exact⟨u,by simp[Array.getElem?_setIfInBounds,ann e,hu],hr⟩⟩,aR.jA⟩
  refine wpIn_mono (ac1 X' (d+1) k hk acP W aI _ acn) fun e a1 w1 ⟨mY,ba,q1,T9,th⟩=>?_
  cases e with
  | normal=>
   have l8:X' (d+1):=.inr (.inr rfl);have SG:X' d:=.inr (.inl rfl);have lV:∀ {W:World} {μ:Mu} {H:Heap} {b:Nat},eT W X' μ H->X' b->¬ jU μ b:=fun hs hx ⟨r,m,h1,h2⟩=>hs.frame r m _ h1 h2 hx;have jD:=(th.same _ aG (lV aR.bx l8)).1.trans hl;have bO:=(th.same d aa (lV aR.bx SG)).1.trans hkD;have MG:d+1 < w1.heap.size:=(amf.1 jD).1;refine⟨_,run_beginRound jD (by rw[zM]),?_⟩;have Nx:In (w1.putObj (d+1) (.loop { rec .ready none with state:=.busy })) X' G mY ⟨n,[],some (d+1)⟩ a1 ba:=T9.turn (fun b hb=>.inl hb) (fun b hb hx=>World.putObj_heap_other fun e=>hx (e ▸ l8)) ak T9.env.defers rfl rfl;have evb:s3 (d+1) (jS fx) W aI (w1.putObj (d+1) (.loop { rec .ready none with state:=.busy })) mY:=(th.but _).trans (.put _ _ _ _ _);refine wpIn_mono (q1 _ mY a1 Nx) fun e a3 w3 ⟨μ3,jK,q3,in3,Ds⟩=>?_;have Tf:w3.heap[d+1]? = some (.loop { rec .ready none with state:=.busy }):=(Ds.same (d+1) (by simpa using MG) (lV Nx.bx l8)).1.trans (World.putObj_heap_same MG);have eE:w3.heap[d]? = some (.deferred (some [])):=(Ds.same d (by simp;omega) (lV Nx.bx SG)).1.trans ((World.putObj_heap_other aa).trans bO);have evc:=evb.trans (Ds.but (d+1));have og:d+1 < w3.heap.size:=(amf.1 Tf).1
   have fin:∀ (jump:Option Code) (H:Heap),aL (jS fx) X' G ⟨n,[],some (d+1)⟩ jK ⟨fun _=>none,H⟩->∃ w4,(Instr.endRound (d+1) jump).run P w3 = .ok (.bool jump.isNone) w4/\At (if jump.isNone then .ready else .done) jump H w4/\Kept (fun b=>jU wX b\/GB G b) W w4:=fun jump H himp=>by
    obtain⟨X9,Ua,ev4⟩:=himp w3 μ3 a3 in3;have Dt:=(evc.trans (ev4.but (d+1))).trans (.put (jS fx) w3 X9 (d+1) (.loop (rec (if jump.isNone then .ready else .done) jump)));refine⟨w3.putObj (d+1) (.loop (rec (if jump.isNone then .ready else .done) jump)),?_,⟨⟨X9,?_,?_⟩,World.putObj_heap_same og,(World.putObj_heap_other aa).trans eE⟩,Dt.size,fun b hb=>?_⟩
    .have:=run_endRound (P:=P) jump Tf;rw[zM]at this ⊢;exact this
    .have TH:=(Ua.turn (N':=⟨n,[],some (d+1)⟩) (X':=X') (w':=w3.putObj (d+1) (.loop (rec (if jump.isNone then .ready else .done) jump))) (fun b hb=>.inl hb) (fun b hb hx=>World.putObj_heap_other fun e=>hx (e ▸ l8)) ak Ua.env.defers rfl rfl)
     exact⟨TH.bx,⟨aR.env.defers,aR.env.size,fun i x hx=>by
      obtain⟨u,hu,hr⟩:=aR.env.slot i x hx
      exact⟨u,hu,hr.FK (he1 i x hx).1 Dt l8 fun b hb=>hb⟩⟩,TH.jA⟩
    .exact ((bd.but (d+1)).trans Dt).ev aa
    .rcases hb with hb | hb
     .exact (Dt.same b (by have:=G5 b hb;omega) (fun e=>by have:=G5 b hb;omega) (lV aR.bx (.inl (.inr hb)))).1
     .obtain⟨h1,h2⟩:=J1 aR.jA hb;exact (Dt.same b h2 (fun e=>h1 (.inl (e ▸ l8))) fun hr=>h1 (.inr hr)).1
   cases e with
   | normal=>
    obtain⟨gI,q3⟩:=q3;obtain⟨w4,h1,h2,h3⟩:=fin none _ q3;exact⟨_,w4,h1,.inl ⟨rfl,⟨gI,h2⟩,h3⟩⟩
   | ret=>
    obtain⟨H,himp,hq⟩:=q3;obtain⟨w4,h1,h2,_⟩:=fin (some .ret) H himp;exact⟨_,w4,h1,.inr ⟨rfl,.ret,H,.inl ⟨rfl,hq⟩,h2⟩⟩
   | exit id=>
    obtain⟨H,himp,hq⟩:=q3;obtain⟨w4,h1,h2,_⟩:=fin (some (.exit id)) H himp;exact⟨_,w4,h1,.inr ⟨rfl,.exit id,H,.inr ⟨id,rfl,hq⟩,h2⟩⟩
   | _=>exact q3.elim
  | _=>exact q1.elim
 refine⟨d+1,[mark d],W1,{ target:=.fn (.func gf) lb,args:=#[.func (.yield (d+1)) #[] #[]] },W1,gf,#[.func (.yield (d+1)) #[] #[]] ++ lb,W1,?_,?_,fun _ _=>trivial,?_,fun e=>(by cases e),XW (Calls.mono
  (hit (d+1) (fun k W=>ok k/\At .ready none (inv k) W) Jx
   (fun k W W' h gm=>⟨h.1,RM _ _ _ W W' h.2 gm⟩) (fun W W' ⟨c,H,hq,h⟩ gm=>⟨c,H,hq,RM _ _ _ W W' h gm⟩) ac2 W1 ⟨wa.size,fun b hb=>wa.same b (hb.elim (fun h=>by have:=G5 b h;omega) fun h=>by have:=(J1 hi.jA h).2;omega)⟩ ⟨acN,⟨_,gx,acg⟩,zj,aF⟩) ?_)⟩
 .rw[<- zq,zM];have:=run_enterLoop_outer (P:=P) (w:=w) fn a.tmps #[p] assign body;rw[hD]at this;exact this
 .simp only[resolve,py];simp[go_sem]
 .have:=hF;simp[invoke,go_sem,hF _ W1]
 .rintro e W2 ⟨⟨v,rfl⟩,hJ⟩
  have out:∀ st pe H,st≠.busy->At st pe H W2->∃ w4,(Instr.endLoop (d+1)).run P W2 = .ok pe w4/\∀ q:Exit,Q q ⟨e1,H⟩->Qb Mv X G n s w μ Q q { a with defers:=[mark d] ++ a.defers } w4:=by
   rintro st pe H dW ⟨⟨aI,aR,bd⟩,hl,hk⟩;have aG:d+1 < W2.heap.size:=(amf.1 hl).1;refine⟨W2.putObj (d+1) (.loop { rec st pe with state:=.exhausted }),?_,fun q hq=>⟨d :: ds,aI,⟨e1,H⟩,hq,⟨?_,?_,?_⟩,?_,?_⟩⟩
   .have:=run_endLoop (P:=P) hl (by rw[zM];exact dW);rw[zM]at this ⊢;exact this
   .exact anf.2 ⟨fun h=>by have:=(amf.1 (hm.CA d h)).1;omega,hm.nodup⟩
   .intro x hx
    rcases amx.1 hx with rfl | hx
    .omega
    .exact hm.new x hx
   .intro x hx
    rcases amx.1 hx with rfl | hx
    .exact (World.putObj_heap_other aa).trans hk
    .have h0:=(amf.1 (hm.CA x hx)).1;have h1:=bd.same x h0 fun ⟨r,m,h1,h2⟩=>hi.bx.frame r m x h1 h2 (.inr hx);exact (World.putObj_heap_other aa).trans (h1.1.trans (hm.CA x hx))
   .refine aR.turn (fun b hb=>.inl ?_) (fun b hb hx=>World.putObj_heap_other fun e=>hx (.inr (.inr e))) ak ?_ rfl rfl
    .rcases hb with hb | hb
     .exact .inl (.inl (.inl hb))
     .rcases amx.1 hb with rfl | hb
      .exact .inr (.inl rfl)
      .exact .inl (.inl (.inr hb))
    .show [mark d] ++ a.defers=(d :: ds).map mark;rw[aR.env.defers];rfl
   .refine (((bd.but (d+1)).trans (.put _ _ _ _ _)).ev aa).weaken fun q m _ hq=>hMv q hq
  rcases hJ with⟨acO,hJ⟩ | ⟨c,H,hq,hJ⟩
  .obtain⟨w4,h1,h2⟩:=out _ _ _ ak hJ;exact⟨none,w4,h1,h2 .normal (ab9 acO)⟩
  .obtain⟨w4,h1,h2⟩:=out _ _ _ ak hJ;refine⟨some c,w4,h1,?_⟩
   rcases hq with⟨rfl,hq⟩ | ⟨id,rfl,hq⟩
   .exact wpIn_ret (h2 .ret hq)
   .exact wpIn_exit (h2 (.exit id) hq)
end
