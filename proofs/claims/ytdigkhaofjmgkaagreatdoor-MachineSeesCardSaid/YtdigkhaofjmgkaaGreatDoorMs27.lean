/- Parts. -/
import Derived.Test.YtdigkhaofjmgkaaGreatDoorMs10
import Derived.RangeFuncSeq
set_option linter.unusedSectionVars false
set_option linter.unusedSimpArgs false
set_option linter.unusedVariables false
set_option maxHeartbeats 1000000
namespace Go.Av
def mark (d:Nat):Deferred:={ target:=.collected d,args:=#[] }
structure Marks (s:Nat) (w:World) (ds:List Nat):Prop where
 nodup:ds.Nodup
 new:∀ d∈ds,s<=d
 uJ:∀ d∈ds,w.heap[d]? = some (.deferred (some []))
def XD (X:Nat->Prop) (ds:List Nat) (b:Nat):Prop:=X b\/b∈ds
structure EvL (l:Nat) (Mv:Nat->Prop) (w:World) (μ:Mu) (w':World) (ax:Mu):Prop where
 size:w.heap.size<=w'.heap.size
 os:w'.os=w.os
 tape:w'.tape=w.tape
 output:w'.output=w.output
 same:∀ b,b < w.heap.size->b≠l->¬ gh μ b->w'.heap[b]? = w.heap[b]?/\¬ gh ax b
 kept:∀ r m,μ r=some m->¬ Mv r->ax r=some m
theorem Ev.but {Mv:Nat->Prop} {w w':World} {μ ax:Mu} (h:Ev Mv w μ w' ax) (l:Nat):EvL l Mv w μ w' ax:=⟨h.size,h.os,h.tape,h.output,fun b hb _ hr=>h.same b hb hr,h.kept⟩
theorem EvL.trans {l:Nat} {Mv:Nat->Prop} {w w1 w2:World} {μ iG μ2:Mu} (h:EvL l Mv w μ w1 iG) (h':EvL l Mv w1 iG w2 μ2):EvL l Mv w μ w2 μ2:=
 ⟨Nat.le_trans h.size h'.size,h'.os.trans h.os,h'.tape.trans h.tape,h'.output.trans h.output,fun b hb hl hr=>
  have h1:=h.same b hb hl hr;have h2:=h'.same b (Nat.lt_of_lt_of_le hb h.size) hl h1.2
  ⟨h2.1.trans h1.1,h2.2⟩,fun r m hm hn=>h'.kept r m (h.kept r m hm hn) hn⟩
theorem EvL.put (Mv:Nat->Prop) (w:World) (μ:Mu) (l:Nat) (o:Obj):EvL l Mv w μ (w.putObj l o) μ:=
 ⟨by simp,rfl,rfl,rfl,fun b _ hl hr=>⟨World.putObj_heap_other hl,hr⟩,fun _ _ h _=>h⟩
theorem EvL.ev {l:Nat} {Mv:Nat->Prop} {w w':World} {μ ax:Mu} (h:EvL l Mv w μ w' ax) (hl:w.heap.size<=l):Ev Mv w μ w' ax:=
 ⟨h.size,h.os,h.tape,h.output,fun b hb hr=>h.same b hb (by omega) hr,h.kept⟩
section
variable {P:Program} {T:Ty} {Mv X:Nat->Prop} {G:ao} {N:Fr} {w w':World} {μ:Mu} {a:Act} {σ:St}
theorem In.turn {N':Fr} {X':Nat->Prop} {a':Act} (hi:In w X G μ N a σ) (hX:∀ b,X' b->X b\/(w.heap.size<=b/\b < w'.heap.size)) (nS:∀ b,b < w.heap.size->¬ X b->w'.heap[b]? = w.heap[b]?) (aK:w.heap.size<=w'.heap.size)
  (hd:a'.defers=N'.ds) (hn:N'.n=N.n) (ht:a'.tmps=a.tmps):In w' X' G μ N' a' σ:=by
 have hD:∀ u d,RD w (XX X μ) u d->RD w' (XX X' μ) u d:=fun u d h=>h.mono aK fun b hb aT=>
  ⟨nS b hb fun e=>aT (.inl e),fun e=>aT (e.elim (fun e=>(hX b e).elim .inl fun ⟨h,_⟩=>absurd hb (Nat.not_lt.2 h)) .inr)⟩
 refine⟨⟨fun r row hr=>?_,hi.aY.iu,hi.aY.inj,fun r m b hr hb hx=>?_,fun b hb=>?_⟩,⟨hd,by rw[ht,hn];exact hi.env.size,fun i x hx=>?_⟩,fun g x hx=>hD _ _ (hi.gq g x hx)⟩
 .obtain⟨m,hm,ok⟩:=hi.aY.rows r row hr;exact⟨m,hm,ok.lift (fun b hb=>nS b (ok.jj hb) (hi.aY.frame r m b hm hb)) hD fun _ _ h=>h⟩
 .have ay:=hi.aY.jj ⟨r,m,hr,hb⟩;exact (hX b hx).elim (hi.aY.frame r m b hr hb) fun ⟨h,_⟩=>absurd ay (Nat.not_lt.2 h)
 .exact (hX b hb).elim (fun h=>Nat.lt_of_lt_of_le (hi.aY.fits b h) aK) (·.2)
 .obtain⟨u,hu,hr⟩:=hi.env.slot i x hx;exact⟨u,by rw[ht];exact hu,hr.lift hD fun _ _ h=>h⟩
theorem Marks.ev {s:Nat} {ds:List Nat} {H:Heap} {ax:Mu} (hm:Marks s w ds) (hs:Sim w (XD X ds) μ H) (ev:Ev Mv w μ w' ax):Marks s w' ds:=
 ⟨hm.nodup,hm.new,fun d hd=>(ev.same d (Array.getElem?_eq_some_iff.1 (hm.uJ d hd)).1 fun ⟨r,m,hr,hb⟩=>hs.frame r m d hr hb (.inr hd)).1.trans (hm.uJ d hd)⟩
def Fp (Mv X:Nat->Prop) (G:ao) (n s:Nat) (w:World) (μ:Mu) (Q:Exit->St->Prop) (e:Exit) (a':Act) (w':World):Prop:=
 ∃ ds ax aw,Q e aw/\Marks s w' ds/\In w' (XD X ds) G ax ⟨n,ds.map mark,none⟩ a' aw/\Ev Mv w μ w' ax
def dL (P:Program) (Mv X:Nat->Prop) (G:ao) (n s:Nat) (c:Code) (Q:Exit->St->Prop) (σ:St):Prop:=
 ∀ ds w μ a,s<=w.heap.size->Marks s w ds->In w (XD X ds) G μ ⟨n,ds.map mark,none⟩ a σ->c.wpIn (wd none) 0 P (Fp Mv X G n s w μ Q) a w
theorem xL {n s:Nat} {c:Code} {Q:Exit->St->Prop} (h:∀ X' ds,AW P Mv X' G ⟨n,ds,none⟩ c Q σ):dL P Mv X G n s c Q σ:=fun ds w μ a hs hm hi=>
 wpIn_mono (h (XD X ds) _ w μ a hi) fun e a' w' ⟨ax,aw,q,i,ev⟩=>⟨ds,ax,aw,q,hm.ev hi.aY ev,i,ev⟩
theorem dL.mono {n s:Nat} {c:Code} {Q Q':Exit->St->Prop} (h:dL P Mv X G n s c Q σ) (hq:∀ e σ,Q e σ->Q' e σ):dL P Mv X G n s c Q' σ:=fun ds w μ a hs hm hi=>
 wpIn_mono (h ds w μ a hs hm hi) fun _ _ _ ⟨ef,ax,aw,q,r⟩=>⟨ef,ax,aw,hq _ _ q,r⟩
theorem dL.imp {n s:Nat} {c:Code} {Q:Exit->St->Prop} {τ:St} (hi:∀ X' ds,aB Mv X' G ⟨n,ds,none⟩ σ τ) (h:dL P Mv X G n s c Q τ):dL P Mv X G n s c Q σ:=fun ds w μ a hs hm aF=>by
 obtain⟨iG,h1,e1⟩:=hi (XD X ds) _ w μ a aF;exact wpIn_mono (h ds w iG a hs hm h1) fun e a' w' ⟨ef,ax,aw,q,m,i,ev⟩=>⟨ef,ax,aw,q,m,i,e1.trans ev⟩
theorem xM {n s:Nat} {x y:Code} {Q:Exit->St->Prop} (h:dL P Mv X G n s x (aM (dL P Mv X G n s y Q) Q) σ):dL P Mv X G n s (.seq x y) Q σ:=fun ds w μ a hs hm hi=>
 wpIn_seq (wpIn_mono (h ds w μ a hs hm hi) fun e a' w' ⟨ef,ax,aw,q,m,i,ev⟩=>by
  cases e with
  | normal=>exact wpIn_mono (q ef w' ax a' (Nat.le_trans hs ev.size) m i) fun e2 a2 w2 ⟨NU,μ2,eL,q2,m2,i2,rf⟩=>⟨NU,μ2,eL,q2,m2,i2,ev.trans rf⟩
  | _=>exact⟨ef,ax,aw,q,m,i,ev⟩)
theorem LN {n s id:Nat} {c:Code} {Q:Exit->St->Prop} (h:dL P Mv X G n s c (aP id Q) σ):dL P Mv X G n s (.block id c) Q σ:=fun ds w μ a hs hm hi=>
 wpIn_block (wpIn_mono (h ds w μ a hs hm hi) fun e a' w' ⟨ef,ax,aw,q,m,i,ev⟩=>by
  cases e with
  | exit zb=>
   simp only[aP]at q;simp only[Exit.inBlock];split
   .rename_i he;rw[if_pos he]at q;exact⟨ef,ax,aw,q,m,i,ev⟩
   .rename_i he;rw[if_neg he]at q;exact⟨ef,ax,aw,q,m,i,ev⟩
  | _=>exact⟨ef,ax,aw,q,m,i,ev⟩)
theorem SS {fn:Func} {tmps:Array Value} {R:Ending->World->Prop}:∀ (ds:List Nat) (w:World),ds.Nodup->(∀ d∈ds,w.heap[d]? = some (.deferred (some [])))->
  (∀ w',w'.heap.size=w.heap.size->w'.os=w.os->w'.tape=w.tape->w'.output=w.output->(∀ b,b ∉ ds->w'.heap[b]? = w.heap[b]?)->∃ v,(results fn tmps).run P w' = .ok v w'/\R (.returned v) w')->
  LeavesInM (wd none) 0 P fn tmps R (ds.map mark) .returning w:=by
 intro ds
 induction ds with
 | nil=>
  intro w _ _ h;obtain⟨v,hv,hR⟩:=h w rfl rfl rfl rfl fun _ _=>rfl;show LeavesIn (wd none) 0 P fn tmps R [] .returning w;exact⟨v,hv,hR⟩
 | cons d ds ih=>
  intro w hn ho h;obtain⟨hd,hn⟩:=List.nodup_cons.1 hn;refine⟨by simp,.inl ⟨d,w.putObj d (.deferred none),rfl,run_takeDeferred (ho d (by simp)),ih _ hn (fun e he=>?_) fun w' h1 h2 h3 h4 h5=>?_⟩⟩
  .rw[World.putObj_heap_other (fun e':e=d=>hd (by rw[<- e'];exact he))];exact ho e (by simp[he])
  .refine h w' (by simpa using h1) h2 h3 h4 fun b hb=>?_;rw[h5 b (fun e=>hb (by simp[e])),World.putObj_heap_other (fun e=>hb (by simp[e]))]
theorem In.shut {n:Nat} {ds:List Nat} (hi:In w (XD X ds) G μ ⟨n,ds.map mark,none⟩ a σ) (h1:w'.heap.size=w.heap.size) (h5:∀ b,b ∉ ds->w'.heap[b]? = w.heap[b]?):In w' X G μ ⟨n,[],none⟩ { a with defers:=[] } σ:=
 hi.turn (fun b hb=>.inl (.inl hb)) (fun b _ hb=>h5 b fun e=>hb (.inr e)) (by omega) rfl rfl rfl
theorem Ev.shut {s:Nat} {w0:World} {gm:Mu} {ds:List Nat} (h:Ev Mv w0 gm w μ) (hm:Marks s w ds) (hs:w0.heap.size<=s) (h1:w'.heap.size=w.heap.size) (h2:w'.os=w.os) (h3:w'.tape=w.tape) (h4:w'.output=w.output) (h5:∀ b,b ∉ ds->w'.heap[b]? = w.heap[b]?):Ev Mv w0 gm w' μ:=
 ⟨by have:=h.size;omega,h2.trans h.os,h3.trans h.tape,h4.trans h.output,fun b hb hr=>by
  have h6:=h.same b hb hr
  exact⟨(h5 b fun e=>by have:=hm.new b e;omega).trans h6.1,h6.2⟩,h.kept⟩
theorem ar.Vk (hg:Good P T) {g:FuncId} {fn:Func} {c:Code} {rs:List ResultVar} {ds:List D} {y:D} (hf:P.funcs[g]? = some fn) (hb:fn.body=some c) (hn:(fn.name == "runtime.NumGoroutine")=false) (gA:fn.results=rs.toArray)
  (hN:ds.length<=fn.ntmps) (h:∀ X s,dL P (fun _=>True) X G fn.ntmps s c (A4 T rs y) ⟨args (ds.map .d),fD⟩):ar P G g ds y:=by
 refine⟨e7.of hf hb hn,fun X w μ vs hs cq aK hv=>?_⟩
 refine (callsIn_wide (n:=0)).1 (callsIn_of_wp_marks hf hb trivial (wpIn_mono (h X w.heap.size [] w μ _ (Nat.le_refl _) ⟨List.nodup_nil,by simp,by simp⟩
  (In.turn (X:=X) (N:=⟨fn.ntmps,[],none⟩) (a:={ tmps:=vs ++ Array.replicate (fn.ntmps - vs.size) undef,defers:=[] }) ⟨hs,⟨rfl,by simp;simp at aK;omega,fun i x hx=>?_⟩,cq⟩ (fun b hb=>.inl (hb.elim id (by simp))) (fun _ _ _=>rfl) (Nat.le_refl _) rfl rfl rfl)) fun e a' w' ⟨ef,ax,aw,q,hm,i,ev⟩=>?_))
 .simp only[args]at hx;have hi:i < (ds.map AV.d).length:=(List.getElem?_eq_some_iff.1 hx).1
  have hvi:vs[i]? = some vs[i]:=by rw[Array.getElem?_eq_getElem]
  exact⟨vs[i],by rw[Array.getElem?_append_left (by omega),hvi],hv i _ x hvi hx⟩
 .have fin:aeA T rs y aw->LeavesInM (wd none) 0 P fn a'.tmps (fun e w'=>∃ v x H' ax,e = .returned v/\(x = .d y/\H'=fD)/\RV w' X ax v x/\Sim w' X ax H'/\Ev (fun _=>True) w μ w' ax) a'.defers .returning w':=fun he=>by
   rw[i.env.defers];refine SS ef w' hm.nodup hm.uJ fun w2 h1 h2 h3 h4 h5=>?_;have hi:=i.shut h1 h5;have aJ:=ev.shut hm (Nat.le_refl _) h1 h2 h3 h4 h5;unfold aeA at he;split at he
   .rename_i c xs hx;obtain⟨hc,he⟩:=he;split at he
    .rename_i y' hy;obtain⟨v,hv,hr⟩:=Er (P:=P) hg hi gA hx hc;have bC:=(xS hi.aY 6 hy hr).le he;refine⟨v,hv,v,.d y,fD,fun _=>none,rfl,⟨rfl,rfl⟩,.d (bC.sub fun b=>ac8.1),Sim.none hi.aY.fits,aJ.size,aJ.os,aJ.tape,aJ.output,fun b hb hr=>⟨(aJ.same b hb hr).1,fun ⟨_,_,h,_⟩=>by cases h⟩,fun r m _ hn=>absurd trivial hn⟩
    .exact he.elim
   .exact he.elim
  cases e with
  | normal=>exact fin q
  | ret=>exact fin q
  | _=>exact q.elim
structure Grown (B:Nat->Prop) (w w':World):Prop where
 size:w.heap.size<=w'.heap.size
 os:w'.os=w.os
 tape:w'.tape=w.tape
 output:w'.output=w.output
 same:∀ b,b < w.heap.size->¬ B b->w'.heap[b]? = w.heap[b]?
structure Kept (B:Nat->Prop) (w w':World):Prop where
 size:w.heap.size<=w'.heap.size
 same:∀ b,B b->w'.heap[b]? = w.heap[b]?
def GB (G:ao) (b:Nat):Prop:=∃ x,G b=some x/\((∃ l,x = .ip l)\/∃ cs,x = .lA cs)
theorem AH {G:ao} {w:World} {X:Nat->Prop} (cq:∀ g x,G g=some x->RD w X (.pointer (some ⟨g,0,none⟩)) x) {b:Nat} (h:GB G b):¬ X b/\b < w.heap.size:=by
 obtain⟨x,hx,h | h⟩:=h
 .obtain⟨l,rfl⟩:=h;have h1:=cq _ _ hx;generalize hy:D.ip l=y at h1;generalize hv:Value.pointer (some ⟨b,0,none⟩)=v at h1;cases h1<;>cases hy;rename_i hX hb _ _;injection hv with hv;injection hv with hv;injection hv with hv;subst hv;exact⟨hX,hb⟩
 .obtain⟨cs,rfl⟩:=h;have h1:=cq _ _ hx;generalize hy:D.lA cs=y at h1;generalize hv:Value.pointer (some ⟨b,0,none⟩)=v at h1;cases h1<;>cases hy;rename_i hX hb;injection hv with hv;injection hv with hv;injection hv with hv;subst hv;exact⟨hX,(Array.getElem?_eq_some_iff.1 hb).1⟩
def Fs (P:Program) (gf:FuncId) (lb:Array Value) (B C:Nat->Prop) (xs:List Value) (w0:World):Prop:=
 ∀ (l:Nat) (J:Nat->World->Prop) (Jx:World->Prop),(∀ k W W',J k W->Grown B W W'->J k W')->(∀ W W',Jx W->Grown B W W'->Jx W')->
  (∀ k (hk:k < xs.length) W,J k W->YieldAt (wd none) 0 P l #[xs[k]] W fun e W'=>(e = .returned (.bool true)/\J (k+1) W'/\Kept C W W')\/(e = .returned (.bool false)/\Jx W'))->
  ∀ w1,Kept C w0 w1->J 0 w1->Calls P gf (#[.func (.yield l) #[] #[]] ++ lb) w1 fun e W'=>(∃ v,e = .returned v)/\(J xs.length W'\/Jx W')
def lp (it:List Nat) (q:Nat):Bool:=!it.contains q
def sD (it:List Nat) (q off n:Nat):AV:=if it.contains q then .dead else .own q off n
def qC (it:List Nat) (q e j:Nat):AV:=if it.contains q then .dead else .ref q e j
theorem In.rest {e0:Env} {H0:Heap} (it:List Nat) (hi:In w X G μ N a ⟨e0,H0⟩):In w (XX X (bL it.contains μ)) G (bL (lp it) μ) N a ⟨fun i=>(e0 i).map (AV.tr (sD it) (qC it)),trH (lp it) (sD it) (qC it) H0⟩:=by
 have hXX:∀ b,XX (XX X (bL it.contains μ)) (bL (lp it) μ) b->XX X μ b:=fun b hb=>hb.elim (fun hb=>hb.elim .inl fun h=>.inr (adK h)) fun h=>.inr (adK h);have hD:∀ u d,RD w (XX X μ) u d->RD w (XX (XX X (bL it.contains μ)) (bL (lp it) μ)) u d:=fun u d h=>h.sub hXX
 have hm:∀ q m,it.contains q=false->μ q=some m->bL (lp it) μ q=some m:=fun q m hk h=>by simp only[bL,lp,hk,Bool.not_false,if_true];exact h
 have hV:∀ u x,RV w X μ u x->RV w (XX X (bL it.contains μ)) (bL (lp it) μ) u (x.tr (sD it) (qC it)):=fun u x=>RV.sS hD (fun u r off n h=>by
   unfold sD;split
   .exact .dead u
   .rename_i hk;obtain⟨m,h1,h2⟩:=h.jd
    exact .own (hm r m (by simpa using hk) h1) h2) (fun u r e j h=>by
   unfold qC;split
   .exact .dead u
   .rename_i hk;obtain⟨m,b,h1,h2,rfl⟩:=h.ie
    exact .ref (hm r m (by simpa using hk) h1) h2)
 refine⟨⟨fun r row hr=>?_,fun r m hr=>?_,fun q q' m1 m2 b h1 h2 cY dA=>hi.aY.inj q q' m1 m2 b (ab3 h1).2 (ab3 h2).2 cY dA,fun q m b hq hb hX=>?_,fun b hb=>hb.elim (hi.aY.fits b) fun h=>hi.aY.jj (adK h)⟩,⟨hi.env.defers,hi.env.size,fun i x hx=>?_⟩,fun g x hx=>hD _ _ (hi.gq g x hx)⟩
 .dsimp only[trH]at hr;split at hr
  .rename_i hk;obtain⟨kU,h0,rfl⟩:=Option.map_eq_some_iff.1 hr;obtain⟨m,h1,ok⟩:=hi.aY.rows r kU h0;exact⟨m,hm r m (by simpa[lp]using hk) h1,ok.sS (fun _ _=>rfl) hD hV⟩
  .cases hr
 .obtain⟨hk,h1⟩:=ab3 hr;obtain⟨row,h0⟩:=hi.aY.iu r m h1;exact⟨row.tr (sD it) (qC it),by dsimp only[trH];rw[if_pos hk];dsimp only at h0;rw[h0];rfl⟩
 .obtain⟨hk,h1⟩:=ab3 hq
  rcases hX with h | ⟨q',m',hq',aT⟩
  .exact hi.aY.frame q m b h1 hb h
  .obtain⟨eA,BI⟩:=ab3 hq';obtain rfl:=hi.aY.inj q q' m m' b h1 BI hb aT;simp only[lp,eA,Bool.not_true,Bool.false_eq_true]at hk
 .obtain⟨y,hy,rfl⟩:=Option.map_eq_some_iff.1 hx;obtain⟨u,hu,hr⟩:=hi.env.slot i y hy;exact⟨u,hu,hV u y hr⟩
def xA (fx:List Nat):AV->Prop
 | .d _=>True
 | .ref r _ _=>fx.contains r=true
 | _=>False
def WH (P:Program) (X:Nat->Prop) (G:ao) (N:Fr) (fx:List Nat) (Q:Exit->St->Prop) (e1:Env) (next:Heap) (nx:Prop):Exit->St->Prop
 | .normal,σ=>nx/\aB (gd fx) X G N σ ⟨fun _=>none,next⟩
 | .ret,σ=>∃ H,aB (gd fx) X G N σ ⟨fun _=>none,H⟩/\Q .ret ⟨e1,H⟩
 | .exit id,σ=>∃ H,aB (gd fx) X G N σ ⟨fun _=>none,H⟩/\Q (.exit id) ⟨e1,H⟩
 | _,_=>False
theorem RV.xA {X X':Nat->Prop} {l:Nat} {μ ax:Mu} {fx:List Nat} {u:Value} {x:AV} (hs:xA fx x) (ev:EvL l (gd fx) w μ w' ax) (hl:X l) (hX:∀ b,X' b->X b) (hr:RV w X μ u x):RV w' X' ax u x:=by
 cases x with
 | d x=>exact .d (hr.data.mono ev.size fun b hb aT=>by
   have h:=ev.same b hb (fun e=>aT (.inl (e ▸ hl))) fun e=>aT (.inr e)
   exact⟨h.1,fun e=>e.elim (fun e=>aT (.inl (hX b e))) h.2⟩)
 | ref r e j=>
  obtain⟨m,b,hm,hb,rfl⟩:=hr.ie;exact .ref (ev.kept r m hm (by unfold gd;unfold Av.xA at hs;rw[hs];simp)) hb
 | _=>exact hs.elim
theorem LO {n s:Nat} {g:Operand} {p:Tmp} {assign body:Code} {Q:Exit->St->Prop} {e0:Env} {H0:Heap} {gf:FuncId} {caps:List AV} (xs:List Value) (it fx:List Nat) (e1:Env) (inv:Nat->Heap) (ok:Nat->Prop) (Q4:ok 0)
  (hg:bf G e0 g=some (.fn (.func gf) caps)) (hF:e7 P gf) (hp:p < n)
  (hIt:∀ (w:World) (X:Nat->Prop) (μ:Mu) (lb:Array Value),Sim w X μ (trH it.contains (dD it) (abk it) H0)->(∀ g x,G g=some x->RD w (XX X μ) (.pointer (some ⟨g,0,none⟩)) x)->lb.size=caps.length->(∀ (i:Nat) (u:Value) (x:AV),lb[i]? = some u->caps[i]? = some x->RV w X μ u (x.tr (dD it) (abk it)))->Fs P gf lb (gh μ) (fun b=>gh μ b\/GB G b) xs w)
  (he1:∀ i x,e1 i=some x->xA fx x/\∃ y,e0 i=some y/\y.tr (sD it) (qC it)=x) (hH:trH (lp it) (sD it) (qC it) H0=inv 0) (Pn:∀ q,gd fx q->Mv q) (hfx:∀ q,fx.contains q=true->it.contains q=false)
  (Rp:∀ X' l k (hk:k < xs.length),ok k->AW P (gd fx) X' G ⟨n,[],some l⟩ assign (aM (AW P (gd fx) X' G ⟨n,[],some l⟩ body (WH P X' G ⟨n,[],some l⟩ fx Q e1 (inv (k+1)) (ok (k+1)))) (fun _ _=>False)) ⟨eS e1 p (.d (.v xs[k])),inv k⟩)
  (Qb:ok xs.length->Q .normal ⟨e1,inv xs.length⟩):dL P Mv X G n s (.rangeFunc g #[p] assign body) Q ⟨e0,H0⟩:=by
 intro ds w μ a hsw hm hi
 obtain⟨lb,ke,tO,qh⟩:∃ lb:Array Value,a.eval g = .func (.func gf) #[] lb/\lb.size=caps.length/\∀ (i:Nat) (u:Value) (x:AV),lb[i]? = some u->caps[i]? = some x->RV w (XD X ds) μ u x:=by
  have h:=hi.eval hg;generalize a.eval g=v at h ⊢
  cases h with
  | fn hn hr=>exact⟨_,rfl,hn,hr⟩
 have bt:=hi.rest it;obtain⟨afx,jx⟩:=hi.aY.part it;have hit:=hIt w _ _ lb afx (fun g x hx=>(hi.gq g x hx).sub fun b=>AU.1) tO fun i u x hu hx=>jx (qh i u x hu hx);generalize hB:bL it.contains μ=pH at bt afx hit;have GM:∀ b,gh pH b->gh μ b:=fun b h=>adK (hB ▸ h);have yA:∀ b,gh pH b->b < w.heap.size:=fun b h=>hi.aY.jj (GM b h);rw[hH]at bt
 have cO:In w (XX (XD X ds) pH) G (bL (lp it) μ) ⟨n,ds.map mark,none⟩ a ⟨e1,inv 0⟩:=⟨bt.aY,⟨bt.env.defers,bt.env.size,fun i x hx=>by
  obtain⟨_,y,hy,rfl⟩:=he1 i x hx
  exact bt.env.slot i _ (by dsimp only;rw[hy];rfl)⟩,bt.gq⟩
 clear bt jx afx;refine wpIn_rangeFunc fun fn _=>?_;generalize hD:w.heap.size=d at *;obtain⟨rec,rY⟩:∃ rec:LoopState->Option Code->Loop,rec=fun st pe=>{ state:=st,pending:=pe,fn,tmps:=a.tmps,params:=#[p],assign,body,defers:=d }:=⟨_,rfl⟩;obtain⟨W1,vR⟩:∃ W1,(w.alloc (.deferred (some []))).alloc (.loop (rec .ready none))=W1:=⟨_,rfl⟩
 have uf:W1.heap.size=d+2:=by rw[<- vR];simp;omega
 have o3:bY w W1:=by
  rw[<- vR];have h1:=bY.alloc w (.deferred (some []));have h2:=bY.alloc (w.alloc (.deferred (some []))) (.loop (rec .ready none));exact⟨Nat.le_trans h1.size h2.size,h2.os.trans h1.os,h2.tape.trans h1.tape,h2.output.trans h1.output,fun b hb=>(h2.same b (Nat.lt_of_lt_of_le hb h1.size)).trans (h1.same b hb)⟩
 have hL1:W1.heap[d+1]? = some (.loop (rec .ready none)):=by
  rw[<- vR];have:=World.alloc_heap_new (w.alloc (.deferred (some []))) (.loop (rec .ready none));rwa [World.size_alloc,hD]at this
 have au:W1.heap[d]? = some (.deferred (some [])):=by
  rw[<- vR,(bY.alloc (w.alloc (.deferred (some []))) (.loop (rec .ready none))).same d (by simp;omega),<- hD];exact World.alloc_heap_new w _
 let X':Nat->Prop:=fun b=>XX (XD X ds) pH b\/b=d\/b=d+1
 have Y6:∀ b,XX (XD X ds) pH b->b < d:=fun b hb=>by have:=cO.aY.fits b hb;omega
 have hi2:In W1 X' G (bL (lp it) μ) ⟨n,ds.map mark,none⟩ a ⟨e1,inv 0⟩:=cO.turn (fun b hb=>hb.elim .inl fun hb=>.inr (by omega)) (fun b hb _=>o3.same b hb) o3.size cO.env.defers rfl rfl
 have Cq:Ev (gd fx) w μ W1 (bL (lp it) μ):=⟨o3.size,o3.os,o3.tape,o3.output,fun b hb hr=>⟨o3.same b hb,fun h=>hr (adK h)⟩,fun q m hq hn=>by
  have Ql:fx.contains q=true:=by
   cases h:fx.contains q with
   | true=>rfl
   | false=>exact absurd h hn
  simp only[bL,lp,hfx q Ql,Bool.not_false,if_true];exact hq⟩
 let At (st:LoopState) (pe:Option Code) (H:Heap) (W:World):Prop:=(∃ ax,In W X' G ax ⟨n,ds.map mark,none⟩ a ⟨e1,H⟩/\Ev (gd fx) w μ W ax)/\W.heap[d+1]? = some (.loop (rec st pe))/\W.heap[d]? = some (.deferred (some []))
 have GJ:∀ st pe H W W',At st pe H W->Grown (gh pH) W W'->At st pe H W':=by
  rintro st pe H W W' ⟨⟨ax,aF,aJ⟩,hl,hk⟩ dP;have ay:d+1 < W.heap.size:=(Array.getElem?_eq_some_iff.1 hl).1
  have hnB:∀ b,d<=b->¬ gh pH b:=fun b hb h=>by have:=yA b h;omega
  refine⟨⟨ax,aF.turn (fun b hb=>.inl hb) (fun b hb hx=>dP.same b hb fun h=>hx (.inl (.inr h))) dP.size aF.env.defers rfl rfl,⟨Nat.le_trans aJ.size dP.size,dP.os.trans aJ.os,dP.tape.trans aJ.tape,dP.output.trans aJ.output,fun b hb hr=>?_,aJ.kept⟩⟩,(dP.same _ ay (hnB _ (by omega))).trans hl,(dP.same _ (by omega) (hnB _ (Nat.le_refl _))).trans hk⟩;have h:=aJ.same b hb hr;exact⟨(dP.same b (Nat.lt_of_lt_of_le hb aJ.size) fun hh=>hr (GM b hh)).trans h.1,h.2⟩
 let Jx:World->Prop:=fun W=>∃ (c:Code) (H:Heap),((c=Code.ret/\Q .ret ⟨e1,H⟩)\/∃ id,c=Code.exit id/\Q (.exit id) ⟨e1,H⟩)/\At .done (some c) H W
 have Rq:∀ k (hk:k < xs.length) W,ok k/\At .ready none (inv k) W->YieldAt (wd none) 0 P (d+1) #[xs[k]] W fun e W'=>
   (e = .returned (.bool true)/\(ok (k+1)/\At .ready none (inv (k+1)) W')/\Kept (fun b=>gh pH b\/GB G b) W W')\/(e = .returned (.bool false)/\Jx W'):=by
  rintro k hk W ⟨Q6,⟨ax,aF,aJ⟩,hl,QG⟩;have ay:d+1 < W.heap.size:=(Array.getElem?_eq_some_iff.1 hl).1;have hy:=run_yield (P:=P) (args:=#[xs[k]]) hl (by rw[rY];rfl);rw[rY]at hy;refine⟨fn,_,assign,body,hy,roundIn_of_wpIn (F:=wd none) trivial ?_⟩;clear hy
  have Qk:(((#[p]:Array Tmp).zip #[xs[k]]).foldl (fun tmps (t,a)=>tmps.setIfInBounds t a) a.tmps)=a.tmps.setIfInBounds p xs[k]:=by simp
  show assign.wpIn (wd (some (d+1))) 0 P _ { tmps:=(((#[p]:Array Tmp).zip #[xs[k]]).foldl (fun tmps (t,a)=>tmps.setIfInBounds t a) a.tmps),defers:=[] } W;rw[Qk];have aK:=aF.env.size
  have Qx:In W X' G ax ⟨n,[],some (d+1)⟩ { tmps:=a.tmps.setIfInBounds p xs[k],defers:=[] } ⟨eS e1 p (.d (.v xs[k])),inv k⟩:=⟨aF.aY,⟨rfl,by simpa using aK,fun i x hx=>by
   simp only[eS]at hx;split at hx
   .rename_i e;obtain rfl:=Option.some.inj hx
    have:p < a.tmps.size:=by rw[aK];exact hp
    exact⟨xs[k],by rw[e];simp[this],.d (.v _)⟩
   .rename_i e;obtain⟨u,hu,hr⟩:=aF.env.slot i x hx
    exact⟨u,by simp[Array.getElem?_setIfInBounds,Ne.symm e,hu],hr⟩⟩,aF.gq⟩
  refine wpIn_mono (Rp X' (d+1) k hk Q6 W ax _ Qx) fun e a1 w1 ⟨iG,aI,q1,Ie,mR⟩=>?_
  cases e with
  | normal=>
   have jm:X' (d+1):=.inr (.inr rfl);have Hc:X' d:=.inr (.inl rfl);have jQ:∀ {W:World} {μ:Mu} {H:Heap} {b:Nat},Sim W X' μ H->X' b->¬ gh μ b:=fun hs hx ⟨r,m,h1,h2⟩=>hs.frame r m _ h1 h2 hx;have fo:=(mR.same _ ay (jQ aF.aY jm)).1.trans hl;have bg:=(mR.same d (by omega) (jQ aF.aY Hc)).1.trans QG;have CJ:d+1 < w1.heap.size:=(Array.getElem?_eq_some_iff.1 fo).1;refine⟨_,run_beginRound fo (by rw[rY]),?_⟩;have Di:In (w1.putObj (d+1) (.loop { rec .ready none with state:=.busy })) X' G iG ⟨n,[],some (d+1)⟩ a1 aI:=Ie.turn (fun b hb=>.inl hb) (fun b hb hx=>World.putObj_heap_other fun e=>hx (e ▸ jm)) (by simp) Ie.env.defers rfl rfl;have Ot:EvL (d+1) (gd fx) W ax (w1.putObj (d+1) (.loop { rec .ready none with state:=.busy })) iG:=(mR.but _).trans (.put _ _ _ _ _);refine wpIn_mono (q1 _ iG a1 Di) fun e a3 w3 ⟨YQ,e6,q3,in3,vu⟩=>?_;have HA:w3.heap[d+1]? = some (.loop { rec .ready none with state:=.busy }):=(vu.same (d+1) (by simpa using CJ) (jQ Di.aY jm)).1.trans (World.putObj_heap_same CJ);have hk3:w3.heap[d]? = some (.deferred (some [])):=(vu.same d (by simp;omega) (jQ Di.aY Hc)).1.trans ((World.putObj_heap_other (by omega)).trans bg);have Ou:=Ot.trans (vu.but (d+1));have ju:d+1 < w3.heap.size:=(Array.getElem?_eq_some_iff.1 HA).1
   have fin:∀ (jump:Option Code) (H:Heap),aB (gd fx) X' G ⟨n,[],some (d+1)⟩ e6 ⟨fun _=>none,H⟩->∃ w4,(Instr.endRound (d+1) jump).run P w3 = .ok (.bool jump.isNone) w4/\At (if jump.isNone then .ready else .done) jump H w4/\Kept (fun b=>gh pH b\/GB G b) W w4:=fun jump H himp=>by
    obtain⟨LL,Ig,Oo⟩:=himp w3 YQ a3 in3;have vv:=(Ou.trans (Oo.but (d+1))).trans (.put (gd fx) w3 LL (d+1) (.loop (rec (if jump.isNone then .ready else .done) jump)));refine⟨w3.putObj (d+1) (.loop (rec (if jump.isNone then .ready else .done) jump)),?_,⟨⟨LL,?_,?_⟩,World.putObj_heap_same ju,(World.putObj_heap_other (by omega)).trans hk3⟩,vv.size,fun b hb=>?_⟩
    .have:=run_endRound (P:=P) jump HA;rw[rY]at this ⊢;exact this
    .have HT:=(Ig.turn (N':=⟨n,[],some (d+1)⟩) (X':=X') (w':=w3.putObj (d+1) (.loop (rec (if jump.isNone then .ready else .done) jump))) (fun b hb=>.inl hb) (fun b hb hx=>World.putObj_heap_other fun e=>hx (e ▸ jm)) (by simp) Ig.env.defers rfl rfl)
     exact⟨HT.aY,⟨aF.env.defers,aF.env.size,fun i x hx=>by
      obtain⟨u,hu,hr⟩:=aF.env.slot i x hx
      exact⟨u,hu,hr.xA (he1 i x hx).1 vv jm fun b hb=>hb⟩⟩,HT.gq⟩
    .exact ((aJ.but (d+1)).trans vv).ev (by omega)
    .rcases hb with hb | hb
     .exact (vv.same b (by have:=yA b hb;omega) (fun e=>by have:=yA b hb;omega) (jQ aF.aY (.inl (.inr hb)))).1
     .obtain⟨h1,h2⟩:=AH aF.gq hb;exact (vv.same b h2 (fun e=>h1 (.inl (e ▸ jm))) fun hr=>h1 (.inr hr)).1
   cases e with
   | normal=>
    obtain⟨eI,q3⟩:=q3;obtain⟨w4,h1,h2,h3⟩:=fin none _ q3;exact⟨_,w4,h1,.inl ⟨rfl,⟨eI,h2⟩,h3⟩⟩
   | ret=>
    obtain⟨H,himp,hq⟩:=q3;obtain⟨w4,h1,h2,_⟩:=fin (some .ret) H himp;exact⟨_,w4,h1,.inr ⟨rfl,.ret,H,.inl ⟨rfl,hq⟩,h2⟩⟩
   | exit id=>
    obtain⟨H,himp,hq⟩:=q3;obtain⟨w4,h1,h2,_⟩:=fin (some (.exit id)) H himp;exact⟨_,w4,h1,.inr ⟨rfl,.exit id,H,.inr ⟨id,rfl,hq⟩,h2⟩⟩
   | _=>exact q3.elim
  | _=>exact q1.elim
 refine⟨d+1,[mark d],W1,{ target:=.fn (.func gf) lb,args:=#[.func (.yield (d+1)) #[] #[]] },W1,gf,#[.func (.yield (d+1)) #[] #[]] ++ lb,W1,?_,?_,fun _ _=>trivial,?_,fun e=>(by cases e),Lz (Calls.mono
  (hit (d+1) (fun k W=>ok k/\At .ready none (inv k) W) Jx
   (fun k W W' h dP=>⟨h.1,GJ _ _ _ W W' h.2 dP⟩) (fun W W' ⟨c,H,hq,h⟩ dP=>⟨c,H,hq,GJ _ _ _ W W' h dP⟩) Rq W1 ⟨o3.size,fun b hb=>o3.same b (hb.elim (fun h=>by have:=yA b h;omega) fun h=>by have:=(AH hi.gq h).2;omega)⟩ ⟨Q4,⟨_,hi2,Cq⟩,hL1,au⟩) ?_)⟩
 .rw[<- vR,rY];have:=run_enterLoop_outer (P:=P) (w:=w) fn a.tmps #[p] assign body;rw[hD]at this;exact this
 .simp only[resolve,ke];simp[go_sem]
 .have:=hF;simp[invoke,go_sem,hF _ W1]
 .rintro e W2 ⟨⟨v,rfl⟩,hJ⟩
  have out:∀ st pe H,st≠.busy->At st pe H W2->∃ w4,(Instr.endLoop (d+1)).run P W2 = .ok pe w4/\∀ q:Exit,Q q ⟨e1,H⟩->Fp Mv X G n s w μ Q q { a with defers:=[mark d] ++ a.defers } w4:=by
   rintro st pe H cZ ⟨⟨ax,aF,aJ⟩,hl,hk⟩;have ay:d+1 < W2.heap.size:=(Array.getElem?_eq_some_iff.1 hl).1;refine⟨W2.putObj (d+1) (.loop { rec st pe with state:=.exhausted }),?_,fun q hq=>⟨d :: ds,ax,⟨e1,H⟩,hq,⟨?_,?_,?_⟩,?_,?_⟩⟩
   .have:=run_endLoop (P:=P) hl (by rw[rY];exact cZ);rw[rY]at this ⊢;exact this
   .exact List.nodup_cons.2 ⟨fun h=>by have:=(Array.getElem?_eq_some_iff.1 (hm.uJ d h)).1;omega,hm.nodup⟩
   .intro x hx
    rcases List.mem_cons.1 hx with rfl | hx
    .omega
    .exact hm.new x hx
   .intro x hx
    rcases List.mem_cons.1 hx with rfl | hx
    .exact (World.putObj_heap_other (by omega)).trans hk
    .have h0:=(Array.getElem?_eq_some_iff.1 (hm.uJ x hx)).1;have h1:=aJ.same x h0 fun ⟨r,m,h1,h2⟩=>hi.aY.frame r m x h1 h2 (.inr hx);exact (World.putObj_heap_other (by omega)).trans (h1.1.trans (hm.uJ x hx))
   .refine aF.turn (fun b hb=>.inl ?_) (fun b hb hx=>World.putObj_heap_other fun e=>hx (.inr (.inr e))) (by simp) ?_ rfl rfl
    .rcases hb with hb | hb
     .exact .inl (.inl (.inl hb))
     .rcases List.mem_cons.1 hb with rfl | hb
      .exact .inr (.inl rfl)
      .exact .inl (.inl (.inr hb))
    .show [mark d] ++ a.defers=(d :: ds).map mark;rw[aF.env.defers];rfl
   .refine (((aJ.but (d+1)).trans (.put _ _ _ _ _)).ev (by omega)).weaken fun q m _ hq=>Pn q hq
  rcases hJ with⟨Q5,hJ⟩ | ⟨c,H,hq,hJ⟩
  .obtain⟨w4,h1,h2⟩:=out _ _ _ (by simp) hJ;exact⟨none,w4,h1,h2 .normal (Qb Q5)⟩
  .obtain⟨w4,h1,h2⟩:=out _ _ _ (by simp) hJ;refine⟨some c,w4,h1,?_⟩
   rcases hq with⟨rfl,hq⟩ | ⟨id,rfl,hq⟩
   .exact wpIn_ret (h2 .ret hq)
   .exact wpIn_exit (h2 (.exit id) hq)
end
