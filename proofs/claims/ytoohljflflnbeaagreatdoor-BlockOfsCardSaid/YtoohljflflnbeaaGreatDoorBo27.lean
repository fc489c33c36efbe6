/- Parts. -/
import Derived.Test.YtoohljflflnbeaaGreatDoorBo10
import Derived.RangeFuncSeq
set_option linter.unusedSectionVars false
set_option linter.unusedSimpArgs false
set_option linter.unusedVariables false
set_option maxHeartbeats 1000000
namespace Go.Av
def mark (d:Nat):Deferred:={ target:=.collected d,args:=#[] }
structure Marks (s:Nat) (w:World) (ds:List Nat):Prop where
 nodup:ds.Nodup
 new:∀ d∈ds,s<=d
 zT:∀ d∈ds,w.heap[d]? = some (.deferred (some []))
def XD (X:Nat->Prop) (ds:List Nat) (b:Nat):Prop:=X b\/b∈ds
structure qZ (l:Nat) (Mv:Nat->Prop) (w:World) (μ:Mu) (w':World) (aH:Mu):Prop where
 size:w.heap.size<=w'.heap.size
 os:w'.os=w.os
 tape:w'.tape=w.tape
 output:w'.output=w.output
 same:∀ b,b < w.heap.size->b≠l->¬ jj μ b->w'.heap[b]? = w.heap[b]?/\¬ jj aH b
 kept:∀ r m,μ r=some m->¬ Mv r->aH r=some m
theorem Ev.but {Mv:Nat->Prop} {w w':World} {μ aH:Mu} (h:Ev Mv w μ w' aH) (l:Nat):qZ l Mv w μ w' aH:=⟨h.size,h.os,h.tape,h.output,fun b hb _ hr=>h.same b hb hr,h.kept⟩
theorem qZ.trans {l:Nat} {Mv:Nat->Prop} {w w1 w2:World} {μ lQ jG:Mu} (h:qZ l Mv w μ w1 lQ) (h':qZ l Mv w1 lQ w2 jG):qZ l Mv w μ w2 jG:=
 ⟨ah5 h.size h'.size,h'.os.trans h.os,h'.tape.trans h.tape,h'.output.trans h.output,fun b hb hl hr=>
  have h1:=h.same b hb hl hr;have h2:=h'.same b (ag2 hb h.size) hl h1.2
  ⟨h2.1.trans h1.1,h2.2⟩,fun r m hm hn=>h'.kept r m (h.kept r m hm hn) hn⟩
theorem qZ.put (Mv:Nat->Prop) (w:World) (μ:Mu) (l:Nat) (o:Obj):qZ l Mv w μ (w.putObj l o) μ:=
 ⟨ak,rfl,rfl,rfl,fun b _ hl hr=>⟨World.putObj_heap_other hl,hr⟩,fun _ _ h _=>h⟩
theorem qZ.ev {l:Nat} {Mv:Nat->Prop} {w w':World} {μ aH:Mu} (h:qZ l Mv w μ w' aH) (hl:w.heap.size<=l):Ev Mv w μ w' aH:=
 ⟨h.size,h.os,h.tape,h.output,fun b hb hr=>h.same b hb aa hr,h.kept⟩
section
variable {P:Program} {T:Ty} {Mv X:Nat->Prop} {G:aC} {N:Fr} {w w':World} {μ:Mu} {a:Act} {σ:St}
theorem In.turn {N':Fr} {X':Nat->Prop} {a':Act} (hi:In w X G μ N a σ) (hX:∀ b,X' b->X b\/(w.heap.size<=b/\b < w'.heap.size)) (sf:∀ b,b < w.heap.size->¬ X b->w'.heap[b]? = w.heap[b]?) (bg:w.heap.size<=w'.heap.size)
  (hd:a'.defers=N'.ds) (hn:N'.n=N.n) (ht:a'.tmps=a.tmps):In w' X' G μ N' a' σ:=by
 have hD:∀ u d,RD w (XX X μ) u d->RD w' (XX X' μ) u d:=fun u d h=>h.mono bg fun b hb bk=>
  ⟨sf b hb fun e=>bk (.inl e),fun e=>bk (e.elim (fun e=>(hX b e).elim .inl fun ⟨h,_⟩=>absurd hb (Nat.not_lt.2 h)) .inr)⟩
 refine⟨⟨fun r row hr=>?_,hi.bu.lD,hi.bu.inj,fun r m b hr hb hx=>?_,fun b hb=>?_⟩,⟨hd,by rw[ht,hn];exact hi.env.size,fun i x hx=>?_⟩,fun g x hx=>hD _ _ (hi.jq g x hx)⟩
 .obtain⟨m,hm,ok⟩:=hi.bu.rows r row hr;exact⟨m,hm,ok.lift (fun b hb=>sf b (ok.mg hb) (hi.bu.frame r m b hm hb)) hD fun _ _ h=>h⟩
 .have aG:=hi.bu.mg ⟨r,m,hr,hb⟩;exact (hX b hx).elim (hi.bu.frame r m b hr hb) fun ⟨h,_⟩=>absurd aG (Nat.not_lt.2 h)
 .exact (hX b hb).elim (fun h=>ag2 (hi.bu.fits b h) bg) (·.2)
 .obtain⟨u,hu,hr⟩:=hi.env.slot i x hx;exact⟨u,by rw[ht];exact hu,hr.lift hD fun _ _ h=>h⟩
theorem Marks.ev {s:Nat} {ds:List Nat} {H:Heap} {aH:Mu} (hm:Marks s w ds) (hs:eF w (XD X ds) μ H) (ev:Ev Mv w μ w' aH):Marks s w' ds:=
 ⟨hm.nodup,hm.new,fun d hd=>(ev.same d (agx.1 (hm.zT d hd)).1 fun ⟨r,m,hr,hb⟩=>hs.frame r m d hr hb (.inr hd)).1.trans (hm.zT d hd)⟩
def Lo (Mv X:Nat->Prop) (G:aC) (n s:Nat) (w:World) (μ:Mu) (Q:Exit->St->Prop) (e:Exit) (a':Act) (w':World):Prop:=
 ∃ ds aH aJ,Q e aJ/\Marks s w' ds/\In w' (XD X ds) G aH ⟨n,ds.map mark,none⟩ a' aJ/\Ev Mv w μ w' aH
def fT (P:Program) (Mv X:Nat->Prop) (G:aC) (n s:Nat) (c:Code) (Q:Exit->St->Prop) (σ:St):Prop:=
 ∀ ds w μ a,s<=w.heap.size->Marks s w ds->In w (XD X ds) G μ ⟨n,ds.map mark,none⟩ a σ->c.wpIn (wd none) 0 P (Lo Mv X G n s w μ Q) a w
theorem C5 {n s:Nat} {c:Code} {Q:Exit->St->Prop} (h:∀ X' ds,AW P Mv X' G ⟨n,ds,none⟩ c Q σ):fT P Mv X G n s c Q σ:=fun ds w μ a hs hm hi=>
 wpIn_mono (h (XD X ds) _ w μ a hi) fun e a' w' ⟨aH,aJ,q,i,ev⟩=>⟨ds,aH,aJ,q,hm.ev hi.bu ev,i,ev⟩
theorem fT.imp {n s:Nat} {c:Code} {Q:Exit->St->Prop} {τ:St} (hi:∀ X' ds,aK Mv X' G ⟨n,ds,none⟩ σ τ) (h:fT P Mv X G n s c Q τ):fT P Mv X G n s c Q σ:=fun ds w μ a hs hm aS=>by
 obtain⟨lQ,h1,e1⟩:=hi (XD X ds) _ w μ a aS;exact wpIn_mono (h ds w lQ a hs hm h1) fun e a' w' ⟨ia,aH,aJ,q,m,i,ev⟩=>⟨ia,aH,aJ,q,m,i,e1.trans ev⟩
theorem C6 {n s:Nat} {x y:Code} {Q:Exit->St->Prop} (h:fT P Mv X G n s x (aT (fT P Mv X G n s y Q) Q) σ):fT P Mv X G n s (.seq x y) Q σ:=fun ds w μ a hs hm hi=>
 wpIn_seq (wpIn_mono (h ds w μ a hs hm hi) fun e a' w' ⟨ia,aH,aJ,q,m,i,ev⟩=>by
  cases e with
  | normal=>exact wpIn_mono (q ia w' aH a' (ah5 hs ev.size) m i) fun e2 a2 w2 ⟨Wd,jG,iy,q2,m2,i2,wz⟩=>⟨Wd,jG,iy,q2,m2,i2,ev.trans wz⟩
  | _=>exact⟨ia,aH,aJ,q,m,i,ev⟩)
theorem Sv {n s id:Nat} {c:Code} {Q:Exit->St->Prop} (h:fT P Mv X G n s c (aV id Q) σ):fT P Mv X G n s (.block id c) Q σ:=fun ds w μ a hs hm hi=>
 wpIn_block (wpIn_mono (h ds w μ a hs hm hi) fun e a' w' ⟨ia,aH,aJ,q,m,i,ev⟩=>by
  cases e with
  | exit EJ=>
   simp only[aV]at q;simp only[Exit.inBlock];split
   .rename_i he;rw[if_pos he]at q;exact⟨ia,aH,aJ,q,m,i,ev⟩
   .rename_i he;rw[if_neg he]at q;exact⟨ia,aH,aJ,q,m,i,ev⟩
  | _=>exact⟨ia,aH,aJ,q,m,i,ev⟩)
theorem aa0 {fn:Func} {tmps:Array Value} {R:Ending->World->Prop}:∀ (ds:List Nat) (w:World),ds.Nodup->(∀ d∈ds,w.heap[d]? = some (.deferred (some [])))->
  (∀ w',w'.heap.size=w.heap.size->w'.os=w.os->w'.tape=w.tape->w'.output=w.output->(∀ b,b ∉ ds->w'.heap[b]? = w.heap[b]?)->∃ v,(results fn tmps).run P w' = .ok v w'/\R (.returned v) w')->
  LeavesInM (wd none) 0 P fn tmps R (ds.map mark) .returning w:=by
 intro ds
 induction ds with
 | nil=>
  intro w _ _ h;obtain⟨v,hv,hR⟩:=h w rfl rfl rfl rfl fun _ _=>rfl;show LeavesIn (wd none) 0 P fn tmps R [] .returning w;exact⟨v,hv,hR⟩
 | cons d ds ih=>
  intro w hn ho h;obtain⟨hd,hn⟩:=ahn.1 hn;refine⟨ak,.inl ⟨d,w.putObj d (.deferred none),rfl,run_takeDeferred (ho d ak),ih _ hn (fun e he=>?_) fun w' h1 h2 h3 h4 h5=>?_⟩⟩
  .rw[World.putObj_heap_other (fun e':e=d=>hd (by rw[<- e'];exact he))];exact ho e (by simp[he])
  .refine h w' (by simpa using h1) h2 h3 h4 fun b hb=>?_;rw[h5 b (fun e=>hb (by simp[e])),World.putObj_heap_other (fun e=>hb (by simp[e]))]
theorem In.shut {n:Nat} {ds:List Nat} (hi:In w (XD X ds) G μ ⟨n,ds.map mark,none⟩ a σ) (h1:w'.heap.size=w.heap.size) (h5:∀ b,b ∉ ds->w'.heap[b]? = w.heap[b]?):In w' X G μ ⟨n,[],none⟩ { a with defers:=[] } σ:=
 hi.turn (fun b hb=>.inl (.inl hb)) (fun b _ hb=>h5 b fun e=>hb (.inr e)) aa rfl rfl rfl
theorem Ev.shut {s:Nat} {w0:World} {om:Mu} {ds:List Nat} (h:Ev Mv w0 om w μ) (hm:Marks s w ds) (hs:w0.heap.size<=s) (h1:w'.heap.size=w.heap.size) (h2:w'.os=w.os) (h3:w'.tape=w.tape) (h4:w'.output=w.output) (h5:∀ b,b ∉ ds->w'.heap[b]? = w.heap[b]?):Ev Mv w0 om w' μ:=
 ⟨by have:=h.size;omega,h2.trans h.os,h3.trans h.tape,h4.trans h.output,fun b hb hr=>by
  have h6:=h.same b hb hr
  exact⟨(h5 b fun e=>by have:=hm.new b e;omega).trans h6.1,h6.2⟩,h.kept⟩
theorem aD.abW (hg:Good P T) {g:FuncId} {fn:Func} {c:Code} {rs:List ResultVar} {ds:List D} {y:D} (hf:P.funcs[g]? = some fn) (hb:fn.body=some c) (hn:(fn.name == "runtime.NumGoroutine")=false) (lk:fn.results=rs.toArray)
  (hN:ds.length<=fn.ntmps) (h:∀ X s,fT P (fun _=>True) X G fn.ntmps s c (Gt T rs y) ⟨args (ds.map .d),jc⟩):aD P G g ds y:=by
 refine⟨gS.of hf hb hn,fun X w μ vs hs dz bg hv=>?_⟩
 refine (callsIn_wide (n:=0)).1 (callsIn_of_wp_marks hf hb trivial (wpIn_mono (h X w.heap.size [] w μ _ (agD _) ⟨List.nodup_nil,ak,ak⟩
  (In.turn (X:=X) (N:=⟨fn.ntmps,[],none⟩) (a:={ tmps:=vs ++ Array.replicate (fn.ntmps - vs.size) undef,defers:=[] }) ⟨hs,⟨rfl,by simp;simp at bg;omega,fun i x hx=>?_⟩,dz⟩ (fun b hb=>.inl (hb.elim id ak)) (fun _ _ _=>rfl) (agD _) rfl rfl rfl)) fun e a' w' ⟨ia,aH,aJ,q,hm,i,ev⟩=>?_))
 .simp only[args]at hx;have hi:i < (ds.map AV.d).length:=(BY.1 hx).1
  have ve:vs[i]? = some vs[i]:=by rw[agL]
  exact⟨vs[i],by rw[ag8 aa,ve],hv i _ x ve hx⟩
 .have fin:yG T rs y aJ->LeavesInM (wd none) 0 P fn a'.tmps (fun e w'=>∃ v x H' aH,e = .returned v/\(x = .d y/\H'=jc)/\RV w' X aH v x/\eF w' X aH H'/\Ev (fun _=>True) w μ w' aH) a'.defers .returning w':=fun he=>by
   rw[i.env.defers];refine aa0 ia w' hm.nodup hm.zT fun w2 h1 h2 h3 h4 h5=>?_;have hi:=i.shut h1 h5;have bp:=ev.shut hm (agD _) h1 h2 h3 h4 h5;unfold yG at he;split at he
   .rename_i c xs hx;obtain⟨hc,he⟩:=he;split at he
    .rename_i y' hy;obtain⟨v,hv,hr⟩:=Kf (P:=P) hg hi lk hx hc;have cf:=(Dg hi.bu 6 hy hr).le he;refine⟨v,hv,v,.d y,jc,fun _=>none,rfl,⟨rfl,rfl⟩,.d (cf.sub fun b=>o6.1),eF.none hi.bu.fits,bp.size,bp.os,bp.tape,bp.output,fun b hb hr=>⟨(bp.same b hb hr).1,fun ⟨_,_,h,_⟩=>by cases h⟩,fun r m _ hn=>absurd trivial hn⟩
    .exact he.elim
   .exact he.elim
  cases e with
  | normal=>exact fin q
  | ret=>exact fin q
  | _=>exact q.elim
structure Grown (B:Nat->Prop) (w w':World):Prop where
 size:w.heap.size<=w'.heap.size
 os:w'.os=w.os
 tape:w'.tape=w.tape
 output:w'.output=w.output
 same:∀ b,b < w.heap.size->¬ B b->w'.heap[b]? = w.heap[b]?
structure Kept (B:Nat->Prop) (w w':World):Prop where
 size:w.heap.size<=w'.heap.size
 same:∀ b,B b->w'.heap[b]? = w.heap[b]?
def GB (G:aC) (b:Nat):Prop:=∃ x,G b=some x/\((∃ l,x = .ip l)\/∃ cs,x = .pK cs)
theorem Ge {G:aC} {w:World} {X:Nat->Prop} (dz:∀ g x,G g=some x->RD w X (.pointer (some ⟨g,0,none⟩)) x) {b:Nat} (h:GB G b):¬ X b/\b < w.heap.size:=by
 obtain⟨x,hx,h | h⟩:=h
 .obtain⟨l,rfl⟩:=h;have h1:=dz _ _ hx;generalize hy:D.ip l=y at h1;generalize hv:Value.pointer (some ⟨b,0,none⟩)=v at h1;cases h1<;>cases hy;rename_i hX hb _ _;injection hv with hv;injection hv with hv;injection hv with hv;subst hv;exact⟨hX,hb⟩
 .obtain⟨cs,rfl⟩:=h;have h1:=dz _ _ hx;generalize hy:D.pK cs=y at h1;generalize hv:Value.pointer (some ⟨b,0,none⟩)=v at h1;cases h1<;>cases hy;rename_i hX hb;injection hv with hv;injection hv with hv;injection hv with hv;subst hv;exact⟨hX,(agx.1 hb).1⟩
def Lp (P:Program) (gf:FuncId) (lb:Array Value) (B C:Nat->Prop) (xs:List Value) (w0:World):Prop:=
 ∀ (l:Nat) (J:Nat->World->Prop) (Jx:World->Prop),(∀ k W W',J k W->Grown B W W'->J k W')->(∀ W W',Jx W->Grown B W W'->Jx W')->
  (∀ k (hk:k < xs.length) W,J k W->YieldAt (wd none) 0 P l #[xs[k]] W fun e W'=>(e = .returned (.bool true)/\J (k+1) W'/\Kept C W W')\/(e = .returned (.bool false)/\Jx W'))->
  ∀ w1,Kept C w0 w1->J 0 w1->Calls P gf (#[.func (.yield l) #[] #[]] ++ lb) w1 fun e W'=>(∃ v,e = .returned v)/\(J xs.length W'\/Jx W')
def pC (it:List Nat) (q:Nat):Bool:=!it.contains q
def xQ (it:List Nat) (q off n:Nat):AV:=if it.contains q then .dead else .own q off n
def vu (it:List Nat) (q e j:Nat):AV:=if it.contains q then .dead else .ref q e j
theorem In.rest {e0:Env} {H0:Heap} (it:List Nat) (hi:In w X G μ N a ⟨e0,H0⟩):In w (XX X (cA it.contains μ)) G (cA (pC it) μ) N a ⟨fun i=>(e0 i).map (AV.tr (xQ it) (vu it)),fe (pC it) (xQ it) (vu it) H0⟩:=by
 have y3:∀ b,XX (XX X (cA it.contains μ)) (cA (pC it) μ) b->XX X μ b:=fun b hb=>hb.elim (fun hb=>hb.elim .inl fun h=>.inr (sC h)) fun h=>.inr (sC h);have hD:∀ u d,RD w (XX X μ) u d->RD w (XX (XX X (cA it.contains μ)) (cA (pC it) μ)) u d:=fun u d h=>h.sub y3
 have hm:∀ q m,it.contains q=false->μ q=some m->cA (pC it) μ q=some m:=fun q m hk h=>by simp only[cA,pC,hk,ahw,if_true];exact h
 have hV:∀ u x,RV w X μ u x->RV w (XX X (cA it.contains μ)) (cA (pC it) μ) u (x.tr (xQ it) (vu it)):=fun u x=>RV.x7 hD (fun u r off n h=>by
   unfold xQ;split
   .exact .dead u
   .rename_i hk;obtain⟨m,h1,h2⟩:=h.ma
    exact .own (hm r m (by simpa using hk) h1) h2) (fun u r e j h=>by
   unfold vu;split
   .exact .dead u
   .rename_i hk;obtain⟨m,b,h1,h2,rfl⟩:=h.lu
    exact .ref (hm r m (by simpa using hk) h1) h2)
 refine⟨⟨fun r row hr=>?_,fun r m hr=>?_,fun q q' m1 m2 b h1 h2 eM gB=>hi.bu.inj q q' m1 m2 b (kh h1).2 (kh h2).2 eM gB,fun q m b hq hb hX=>?_,fun b hb=>hb.elim (hi.bu.fits b) fun h=>hi.bu.mg (sC h)⟩,⟨hi.env.defers,hi.env.size,fun i x hx=>?_⟩,fun g x hx=>hD _ _ (hi.jq g x hx)⟩
 .dsimp only[fe]at hr;split at hr
  .rename_i hk;obtain⟨oY,h0,rfl⟩:=AS.1 hr;obtain⟨m,h1,ok⟩:=hi.bu.rows r oY h0;exact⟨m,hm r m (by simpa[pC]using hk) h1,ok.x7 (fun _ _=>rfl) hD hV⟩
  .cases hr
 .obtain⟨hk,h1⟩:=kh hr;obtain⟨row,h0⟩:=hi.bu.lD r m h1;exact⟨row.tr (xQ it) (vu it),by dsimp only[fe];rw[if_pos hk];dsimp only at h0;rw[h0];rfl⟩
 .obtain⟨hk,h1⟩:=kh hq
  rcases hX with h | ⟨q',m',oO,bk⟩
  .exact hi.bu.frame q m b h1 hb h
  .obtain⟨gh,G4⟩:=kh oO;obtain rfl:=hi.bu.inj q q' m m' b h1 G4 hb bk;simp only[pC,gh,Bool.not_true,agE]at hk
 .obtain⟨y,hy,rfl⟩:=AS.1 hx;obtain⟨u,hu,hr⟩:=hi.env.slot i y hy;exact⟨u,hu,hV u y hr⟩
def CR (fx:List Nat):AV->Prop
 | .d _=>True
 | .ref r _ _=>fx.contains r=true
 | _=>False
def adm (P:Program) (X:Nat->Prop) (G:aC) (N:Fr) (fx:List Nat) (Q:Exit->St->Prop) (e1:Env) (next:Heap) (nx:Prop):Exit->St->Prop
 | .normal,σ=>nx/\aK (jh fx) X G N σ ⟨fun _=>none,next⟩
 | .ret,σ=>∃ H,aK (jh fx) X G N σ ⟨fun _=>none,H⟩/\Q .ret ⟨e1,H⟩
 | .exit id,σ=>∃ H,aK (jh fx) X G N σ ⟨fun _=>none,H⟩/\Q (.exit id) ⟨e1,H⟩
 | _,_=>False
theorem RV.CR {X X':Nat->Prop} {l:Nat} {μ aH:Mu} {fx:List Nat} {u:Value} {x:AV} (hs:CR fx x) (ev:qZ l (jh fx) w μ w' aH) (hl:X l) (hX:∀ b,X' b->X b) (hr:RV w X μ u x):RV w' X' aH u x:=by
 cases x with
 | d x=>exact .d (hr.data.mono ev.size fun b hb bk=>by
   have h:=ev.same b hb (fun e=>bk (.inl (e ▸ hl))) fun e=>bk (.inr e)
   exact⟨h.1,fun e=>e.elim (fun e=>bk (.inl (hX b e))) h.2⟩)
 | ref r e j=>
  obtain⟨m,b,hm,hb,rfl⟩:=hr.lu;exact .ref (ev.kept r m hm (by unfold jh;unfold Av.CR at hs;rw[hs];simp)) hb
 | _=>exact hs.elim
theorem Sw {n s:Nat} {g:Operand} {p:Tmp} {assign body:Code} {Q:Exit->St->Prop} {e0:Env} {H0:Heap} {gf:FuncId} {caps:List AV} (xs:List Value) (it fx:List Nat) (e1:Env) (inv:Nat->Heap) (ok:Nat->Prop) (Zp:ok 0)
  (hg:bF G e0 g=some (.fn (.func gf) caps)) (hF:gS P gf) (hp:p < n)
  (hIt:∀ (w:World) (X:Nat->Prop) (μ:Mu) (lb:Array Value),eF w X μ (fe it.contains (fF it) (fE it) H0)->(∀ g x,G g=some x->RD w (XX X μ) (.pointer (some ⟨g,0,none⟩)) x)->lb.size=caps.length->(∀ (i:Nat) (u:Value) (x:AV),lb[i]? = some u->caps[i]? = some x->RV w X μ u (x.tr (fF it) (fE it)))->Lp P gf lb (jj μ) (fun b=>jj μ b\/GB G b) xs w)
  (he1:∀ i x,e1 i=some x->CR fx x/\∃ y,e0 i=some y/\y.tr (xQ it) (vu it)=x) (hH:fe (pC it) (xQ it) (vu it) H0=inv 0) (XE:∀ q,jh fx q->Mv q) (hfx:∀ q,fx.contains q=true->it.contains q=false)
  (ZI:∀ X' l k (hk:k < xs.length),ok k->AW P (jh fx) X' G ⟨n,[],some l⟩ assign (aT (AW P (jh fx) X' G ⟨n,[],some l⟩ body (adm P X' G ⟨n,[],some l⟩ fx Q e1 (inv (k+1)) (ok (k+1)))) (fun _ _=>False)) ⟨gI e1 p (.d (.v xs[k])),inv k⟩)
  (Yv:ok xs.length->Q .normal ⟨e1,inv xs.length⟩):fT P Mv X G n s (.rangeFunc g #[p] assign body) Q ⟨e0,H0⟩:=by
 intro ds w μ a zp hm hi
 obtain⟨lb,nN,ze,u6⟩:∃ lb:Array Value,a.eval g = .func (.func gf) #[] lb/\lb.size=caps.length/\∀ (i:Nat) (u:Value) (x:AV),lb[i]? = some u->caps[i]? = some x->RV w (XD X ds) μ u x:=by
  have h:=hi.eval hg;generalize a.eval g=v at h ⊢
  cases h with
  | fn hn hr=>exact⟨_,rfl,hn,hr⟩
 have cO:=hi.rest it;obtain⟨Ir,mD⟩:=hi.bu.part it;have hit:=hIt w _ _ lb Ir (fun g x hx=>(hi.jq g x hx).sub fun b=>Gk.1) ze fun i u x hu hx=>mD (u6 i u x hu hx);generalize hB:cA it.contains μ=uC at cO Ir hit;have MS:∀ b,jj uC b->jj μ b:=fun b h=>sC (hB ▸ h);have D2:∀ b,jj uC b->b < w.heap.size:=fun b h=>hi.bu.mg (MS b h);rw[hH]at cO
 have fJ:In w (XX (XD X ds) uC) G (cA (pC it) μ) ⟨n,ds.map mark,none⟩ a ⟨e1,inv 0⟩:=⟨cO.bu,⟨cO.env.defers,cO.env.size,fun i x hx=>by
  obtain⟨_,y,hy,rfl⟩:=he1 i x hx
  exact cO.env.slot i _ (by dsimp only;rw[hy];rfl)⟩,cO.jq⟩
 clear cO mD Ir;refine wpIn_rangeFunc fun fn _=>?_;generalize hD:w.heap.size=d at *;obtain⟨rec,xf⟩:∃ rec:LoopState->Option Code->Loop,rec=fun st pe=>{ state:=st,pending:=pe,fn,tmps:=a.tmps,params:=#[p],assign,body,defers:=d }:=⟨_,rfl⟩;obtain⟨W1,Bd⟩:∃ W1,(w.alloc (.deferred (some []))).alloc (.loop (rec .ready none))=W1:=⟨_,rfl⟩
 have zx:W1.heap.size=d+2:=by rw[<- Bd];simp;omega
 have tP:cR w W1:=by
  rw[<- Bd];have h1:=cR.alloc w (.deferred (some []));have h2:=cR.alloc (w.alloc (.deferred (some []))) (.loop (rec .ready none));exact⟨ah5 h1.size h2.size,h2.os.trans h1.os,h2.tape.trans h1.tape,h2.output.trans h1.output,fun b hb=>(h2.same b (ag2 hb h1.size)).trans (h1.same b hb)⟩
 have wE:W1.heap[d+1]? = some (.loop (rec .ready none)):=by
  rw[<- Bd];have:=World.alloc_heap_new (w.alloc (.deferred (some []))) (.loop (rec .ready none));rwa [World.size_alloc,hD]at this
 have aF:W1.heap[d]? = some (.deferred (some [])):=by
  rw[<- Bd,(cR.alloc (w.alloc (.deferred (some []))) (.loop (rec .ready none))).same d (by simp;omega),<- hD];exact World.alloc_heap_new w _
 let X':Nat->Prop:=fun b=>XX (XD X ds) uC b\/b=d\/b=d+1
 have afq:∀ b,XX (XD X ds) uC b->b < d:=fun b hb=>by have:=fJ.bu.fits b hb;omega
 have fZ:In W1 X' G (cA (pC it) μ) ⟨n,ds.map mark,none⟩ a ⟨e1,inv 0⟩:=fJ.turn (fun b hb=>hb.elim .inl fun hb=>.inr aa) (fun b hb _=>tP.same b hb) tP.size fJ.env.defers rfl rfl
 have YD:Ev (jh fx) w μ W1 (cA (pC it) μ):=⟨tP.size,tP.os,tP.tape,tP.output,fun b hb hr=>⟨tP.same b hb,fun h=>hr (sC h)⟩,fun q m hq hn=>by
  have YG:fx.contains q=true:=by
   cases h:fx.contains q with
   | true=>rfl
   | false=>exact absurd h hn
  simp only[cA,pC,hfx q YG,ahw,if_true];exact hq⟩
 let At (st:LoopState) (pe:Option Code) (H:Heap) (W:World):Prop:=(∃ aH,In W X' G aH ⟨n,ds.map mark,none⟩ a ⟨e1,H⟩/\Ev (jh fx) w μ W aH)/\W.heap[d+1]? = some (.loop (rec st pe))/\W.heap[d]? = some (.deferred (some []))
 have MP:∀ st pe H W W',At st pe H W->Grown (jj uC) W W'->At st pe H W':=by
  rintro st pe H W W' ⟨⟨aH,aS,bp⟩,hl,hk⟩ fC;have aG:d+1 < W.heap.size:=(agx.1 hl).1
  have NU:∀ b,d<=b->¬ jj uC b:=fun b hb h=>by have:=D2 b h;omega
  refine⟨⟨aH,aS.turn (fun b hb=>.inl hb) (fun b hb hx=>fC.same b hb fun h=>hx (.inl (.inr h))) fC.size aS.env.defers rfl rfl,⟨ah5 bp.size fC.size,fC.os.trans bp.os,fC.tape.trans bp.tape,fC.output.trans bp.output,fun b hb hr=>?_,bp.kept⟩⟩,(fC.same _ aG (NU _ aa)).trans hl,(fC.same _ aa (NU _ (agD _))).trans hk⟩;have h:=bp.same b hb hr;exact⟨(fC.same b (ag2 hb bp.size) fun hh=>hr (MS b hh)).trans h.1,h.2⟩
 let Jx:World->Prop:=fun W=>∃ (c:Code) (H:Heap),((c=Code.ret/\Q .ret ⟨e1,H⟩)\/∃ id,c=Code.exit id/\Q (.exit id) ⟨e1,H⟩)/\At .done (some c) H W
 have ZJ:∀ k (hk:k < xs.length) W,ok k/\At .ready none (inv k) W->YieldAt (wd none) 0 P (d+1) #[xs[k]] W fun e W'=>
   (e = .returned (.bool true)/\(ok (k+1)/\At .ready none (inv (k+1)) W')/\Kept (fun b=>jj uC b\/GB G b) W W')\/(e = .returned (.bool false)/\Jx W'):=by
  rintro k hk W ⟨Zr,⟨aH,aS,bp⟩,hl,Y0⟩;have aG:d+1 < W.heap.size:=(agx.1 hl).1;have hy:=run_yield (P:=P) (args:=#[xs[k]]) hl (by rw[xf];rfl);rw[xf]at hy;refine⟨fn,_,assign,body,hy,roundIn_of_wpIn (F:=wd none) trivial ?_⟩;clear hy
  have YF:(((#[p]:Array Tmp).zip #[xs[k]]).foldl (fun tmps (t,a)=>tmps.setIfInBounds t a) a.tmps)=a.tmps.setIfInBounds p xs[k]:=ak
  show assign.wpIn (wd (some (d+1))) 0 P _ { tmps:=(((#[p]:Array Tmp).zip #[xs[k]]).foldl (fun tmps (t,a)=>tmps.setIfInBounds t a) a.tmps),defers:=[] } W;rw[YF];have bg:=aS.env.size
  have YQ:In W X' G aH ⟨n,[],some (d+1)⟩ { tmps:=a.tmps.setIfInBounds p xs[k],defers:=[] } ⟨gI e1 p (.d (.v xs[k])),inv k⟩:=⟨aS.bu,⟨rfl,by simpa using bg,fun i x hx=>by
   simp only[gI]at hx;split at hx
   .rename_i e;obtain rfl:=AI hx
    have:p < a.tmps.size:=by rw[bg];exact hp
    exact⟨xs[k],by rw[e];simp[this],.d (.v _)⟩
   .rename_i e;obtain⟨u,hu,hr⟩:=aS.env.slot i x hx
    exact⟨u,by simp[Array.getElem?_setIfInBounds,ahD e,hu],hr⟩⟩,aS.jq⟩
  refine wpIn_mono (ZI X' (d+1) k hk Zr W aH _ YQ) fun e a1 w1 ⟨lQ,bh,q1,OD,rj⟩=>?_
  cases e with
  | normal=>
   have ml:X' (d+1):=.inr (.inr rfl);have Nl:X' d:=.inr (.inl rfl);have rB:∀ {W:World} {μ:Mu} {H:Heap} {b:Nat},eF W X' μ H->X' b->¬ jj μ b:=fun hs hx ⟨r,m,h1,h2⟩=>hs.frame r m _ h1 h2 hx;have ig:=(rj.same _ aG (rB aS.bu ml)).1.trans hl;have bC:=(rj.same d aa (rB aS.bu Nl)).1.trans Y0;have H9:d+1 < w1.heap.size:=(agx.1 ig).1;refine⟨_,run_beginRound ig (by rw[xf]),?_⟩;have I3:In (w1.putObj (d+1) (.loop { rec .ready none with state:=.busy })) X' G lQ ⟨n,[],some (d+1)⟩ a1 bh:=OD.turn (fun b hb=>.inl hb) (fun b hb hx=>World.putObj_heap_other fun e=>hx (e ▸ ml)) ak OD.env.defers rfl rfl;have WI:qZ (d+1) (jh fx) W aH (w1.putObj (d+1) (.loop { rec .ready none with state:=.busy })) lQ:=(rj.but _).trans (.put _ _ _ _ _);refine wpIn_mono (q1 _ lQ a1 I3) fun e a3 w3 ⟨μ3,j1,q3,Z9,AE⟩=>?_;have NR:w3.heap[d+1]? = some (.loop { rec .ready none with state:=.busy }):=(AE.same (d+1) (by simpa using H9) (rB I3.bu ml)).1.trans (World.putObj_heap_same H9);have df:w3.heap[d]? = some (.deferred (some [])):=(AE.same d (by simp;omega) (rB I3.bu Nl)).1.trans ((World.putObj_heap_other aa).trans bC);have WJ:=WI.trans (AE.but (d+1));have nR:d+1 < w3.heap.size:=(agx.1 NR).1
   have fin:∀ (jump:Option Code) (H:Heap),aK (jh fx) X' G ⟨n,[],some (d+1)⟩ j1 ⟨fun _=>none,H⟩->∃ w4,(Instr.endRound (d+1) jump).run P w3 = .ok (.bool jump.isNone) w4/\At (if jump.isNone then .ready else .done) jump H w4/\Kept (fun b=>jj uC b\/GB G b) W w4:=fun jump H himp=>by
    obtain⟨Ss,OE,WG⟩:=himp w3 μ3 a3 Z9;have AF:=(WJ.trans (WG.but (d+1))).trans (.put (jh fx) w3 Ss (d+1) (.loop (rec (if jump.isNone then .ready else .done) jump)));refine⟨w3.putObj (d+1) (.loop (rec (if jump.isNone then .ready else .done) jump)),?_,⟨⟨Ss,?_,?_⟩,World.putObj_heap_same nR,(World.putObj_heap_other aa).trans df⟩,AF.size,fun b hb=>?_⟩
    .have:=run_endRound (P:=P) jump NR;rw[xf]at this ⊢;exact this
    .have Oj:=(OE.turn (N':=⟨n,[],some (d+1)⟩) (X':=X') (w':=w3.putObj (d+1) (.loop (rec (if jump.isNone then .ready else .done) jump))) (fun b hb=>.inl hb) (fun b hb hx=>World.putObj_heap_other fun e=>hx (e ▸ ml)) ak OE.env.defers rfl rfl)
     exact⟨Oj.bu,⟨aS.env.defers,aS.env.size,fun i x hx=>by
      obtain⟨u,hu,hr⟩:=aS.env.slot i x hx
      exact⟨u,hu,hr.CR (he1 i x hx).1 AF ml fun b hb=>hb⟩⟩,Oj.jq⟩
    .exact ((bp.but (d+1)).trans AF).ev aa
    .rcases hb with hb | hb
     .exact (AF.same b (by have:=D2 b hb;omega) (fun e=>by have:=D2 b hb;omega) (rB aS.bu (.inl (.inr hb)))).1
     .obtain⟨h1,h2⟩:=Ge aS.jq hb;exact (AF.same b h2 (fun e=>h1 (.inl (e ▸ ml))) fun hr=>h1 (.inr hr)).1
   cases e with
   | normal=>
    obtain⟨eX,q3⟩:=q3;obtain⟨w4,h1,h2,h3⟩:=fin none _ q3;exact⟨_,w4,h1,.inl ⟨rfl,⟨eX,h2⟩,h3⟩⟩
   | ret=>
    obtain⟨H,himp,hq⟩:=q3;obtain⟨w4,h1,h2,_⟩:=fin (some .ret) H himp;exact⟨_,w4,h1,.inr ⟨rfl,.ret,H,.inl ⟨rfl,hq⟩,h2⟩⟩
   | exit id=>
    obtain⟨H,himp,hq⟩:=q3;obtain⟨w4,h1,h2,_⟩:=fin (some (.exit id)) H himp;exact⟨_,w4,h1,.inr ⟨rfl,.exit id,H,.inr ⟨id,rfl,hq⟩,h2⟩⟩
   | _=>exact q3.elim
  | _=>exact q1.elim
 refine⟨d+1,[mark d],W1,{ target:=.fn (.func gf) lb,args:=#[.func (.yield (d+1)) #[] #[]] },W1,gf,#[.func (.yield (d+1)) #[] #[]] ++ lb,W1,?_,?_,fun _ _=>trivial,?_,fun e=>(by cases e),Sh (Calls.mono
  (hit (d+1) (fun k W=>ok k/\At .ready none (inv k) W) Jx
   (fun k W W' h fC=>⟨h.1,MP _ _ _ W W' h.2 fC⟩) (fun W W' ⟨c,H,hq,h⟩ fC=>⟨c,H,hq,MP _ _ _ W W' h fC⟩) ZJ W1 ⟨tP.size,fun b hb=>tP.same b (hb.elim (fun h=>by have:=D2 b h;omega) fun h=>by have:=(Ge hi.jq h).2;omega)⟩ ⟨Zp,⟨_,fZ,YD⟩,wE,aF⟩) ?_)⟩
 .rw[<- Bd,xf];have:=run_enterLoop_outer (P:=P) (w:=w) fn a.tmps #[p] assign body;rw[hD]at this;exact this
 .simp only[resolve,nN];simp[go_sem]
 .have:=hF;simp[invoke,go_sem,hF _ W1]
 .rintro e W2 ⟨⟨v,rfl⟩,hJ⟩
  have out:∀ st pe H,st≠.busy->At st pe H W2->∃ w4,(Instr.endLoop (d+1)).run P W2 = .ok pe w4/\∀ q:Exit,Q q ⟨e1,H⟩->Lo Mv X G n s w μ Q q { a with defers:=[mark d] ++ a.defers } w4:=by
   rintro st pe H dP ⟨⟨aH,aS,bp⟩,hl,hk⟩;have aG:d+1 < W2.heap.size:=(agx.1 hl).1;refine⟨W2.putObj (d+1) (.loop { rec st pe with state:=.exhausted }),?_,fun q hq=>⟨d :: ds,aH,⟨e1,H⟩,hq,⟨?_,?_,?_⟩,?_,?_⟩⟩
   .have:=run_endLoop (P:=P) hl (by rw[xf];exact dP);rw[xf]at this ⊢;exact this
   .exact ahn.2 ⟨fun h=>by have:=(agx.1 (hm.zT d h)).1;omega,hm.nodup⟩
   .intro x hx
    rcases agK.1 hx with rfl | hx
    .omega
    .exact hm.new x hx
   .intro x hx
    rcases agK.1 hx with rfl | hx
    .exact (World.putObj_heap_other aa).trans hk
    .have h0:=(agx.1 (hm.zT x hx)).1;have h1:=bp.same x h0 fun ⟨r,m,h1,h2⟩=>hi.bu.frame r m x h1 h2 (.inr hx);exact (World.putObj_heap_other aa).trans (h1.1.trans (hm.zT x hx))
   .refine aS.turn (fun b hb=>.inl ?_) (fun b hb hx=>World.putObj_heap_other fun e=>hx (.inr (.inr e))) ak ?_ rfl rfl
    .rcases hb with hb | hb
     .exact .inl (.inl (.inl hb))
     .rcases agK.1 hb with rfl | hb
      .exact .inr (.inl rfl)
      .exact .inl (.inl (.inr hb))
    .show [mark d] ++ a.defers=(d :: ds).map mark;rw[aS.env.defers];rfl
   .refine (((bp.but (d+1)).trans (.put _ _ _ _ _)).ev aa).weaken fun q m _ hq=>XE q hq
  rcases hJ with⟨Zq,hJ⟩ | ⟨c,H,hq,hJ⟩
  .obtain⟨w4,h1,h2⟩:=out _ _ _ ak hJ;exact⟨none,w4,h1,h2 .normal (Yv Zq)⟩
  .obtain⟨w4,h1,h2⟩:=out _ _ _ ak hJ;refine⟨some c,w4,h1,?_⟩
   rcases hq with⟨rfl,hq⟩ | ⟨id,rfl,hq⟩
   .exact wpIn_ret (h2 .ret hq)
   .exact wpIn_exit (h2 (.exit id) hq)
end
