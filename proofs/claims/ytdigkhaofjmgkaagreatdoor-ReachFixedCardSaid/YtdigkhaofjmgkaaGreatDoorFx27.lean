/- Parts. -/
import Derived.Test.YtdigkhaofjmgkaaGreatDoorFx10
import Derived.RangeFuncSeq
set_option linter.unusedSectionVars false
set_option linter.unusedSimpArgs false
set_option linter.unusedVariables false
set_option maxHeartbeats 1000000
namespace Go.Av
def mark (d:Nat):Deferred:={ target:=.collected d,args:=#[] }
structure Marks (s:Nat) (w:World) (ds:List Nat):Prop where
 nodup:ds.Nodup
 new:∀ d∈ds,s<=d
 vg:∀ d∈ds,w.heap[d]? = some (.deferred (some []))
def XD (X:Nat->Prop) (ds:List Nat) (b:Nat):Prop:=X b\/b∈ds
structure ng (l:Nat) (Mv:Nat->Prop) (w:World) (μ:Mu) (w':World) (ay:Mu):Prop where
 size:w.heap.size<=w'.heap.size
 os:w'.os=w.os
 tape:w'.tape=w.tape
 output:w'.output=w.output
 same:∀ b,b < w.heap.size->b≠l->¬ ran μ b->w'.heap[b]? = w.heap[b]?/\¬ ran ay b
 kept:∀ r m,μ r=some m->¬ Mv r->ay r=some m
theorem Ev.but {Mv:Nat->Prop} {w w':World} {μ ay:Mu} (h:Ev Mv w μ w' ay) (l:Nat):ng l Mv w μ w' ay:=⟨h.size,h.os,h.tape,h.output,fun b hb _ hr=>h.same b hb hr,h.kept⟩
theorem ng.trans {l:Nat} {Mv:Nat->Prop} {w w1 w2:World} {μ iM μ2:Mu} (h:ng l Mv w μ w1 iM) (h':ng l Mv w1 iM w2 μ2):ng l Mv w μ w2 μ2:=
 ⟨aew h.size h'.size,h'.os.trans h.os,h'.tape.trans h.tape,h'.output.trans h.output,fun b hb hl hr=>
  have h1:=h.same b hb hl hr;have h2:=h'.same b (acP hb h.size) hl h1.2
  ⟨h2.1.trans h1.1,h2.2⟩,fun r m hm hn=>h'.kept r m (h.kept r m hm hn) hn⟩
theorem ng.put (Mv:Nat->Prop) (w:World) (μ:Mu) (l:Nat) (o:Obj):ng l Mv w μ (w.putObj l o) μ:=
 ⟨by simp,rfl,rfl,rfl,fun b _ hl hr=>⟨World.putObj_heap_other hl,hr⟩,fun _ _ h _=>h⟩
theorem ng.ev {l:Nat} {Mv:Nat->Prop} {w w':World} {μ ay:Mu} (h:ng l Mv w μ w' ay) (hl:w.heap.size<=l):Ev Mv w μ w' ay:=
 ⟨h.size,h.os,h.tape,h.output,fun b hb hr=>h.same b hb (by omega) hr,h.kept⟩
section
variable {P:Program} {T:Ty} {Mv X:Nat->Prop} {G:aq} {N:Fr} {w w':World} {μ:Mu} {a:Act} {σ:St}
theorem In.turn {N':Fr} {X':Nat->Prop} {a':Act} (hi:In w X G μ N a σ) (hX:∀ b,X' b->X b\/(w.heap.size<=b/\b < w'.heap.size)) (afb:∀ b,b < w.heap.size->¬ X b->w'.heap[b]? = w.heap[b]?) (aK:w.heap.size<=w'.heap.size)
  (hd:a'.defers=N'.ds) (hn:N'.n=N.n) (ht:a'.tmps=a.tmps):In w' X' G μ N' a' σ:=by
 have hD:∀ u d,RD w (XX X μ) u d->RD w' (XX X' μ) u d:=fun u d h=>h.mono aK fun b hb aU=>
  ⟨afb b hb fun e=>aU (.inl e),fun e=>aU (e.elim (fun e=>(hX b e).elim .inl fun ⟨h,_⟩=>absurd hb (Nat.not_lt.2 h)) .inr)⟩
 refine⟨⟨fun r row hr=>?_,hi.aX.iy,hi.aX.inj,fun r m b hr hb hx=>?_,fun b hb=>?_⟩,⟨hd,by rw[ht,hn];exact hi.env.size,fun i x hx=>?_⟩,fun g x hx=>hD _ _ (hi.gr g x hx)⟩
 .obtain⟨m,hm,ok⟩:=hi.aX.rows r row hr;exact⟨m,hm,ok.lift (fun b hb=>afb b (ok.jl hb) (hi.aX.frame r m b hm hb)) hD fun _ _ h=>h⟩
 .have au:=hi.aX.jl ⟨r,m,hr,hb⟩;exact (hX b hx).elim (hi.aX.frame r m b hr hb) fun ⟨h,_⟩=>absurd au (Nat.not_lt.2 h)
 .exact (hX b hb).elim (fun h=>acP (hi.aX.fits b h) aK) (·.2)
 .obtain⟨u,hu,hr⟩:=hi.env.slot i x hx;exact⟨u,by rw[ht];exact hu,hr.lift hD fun _ _ h=>h⟩
theorem Marks.ev {s:Nat} {ds:List Nat} {H:Heap} {ay:Mu} (hm:Marks s w ds) (hs:Sim w (XD X ds) μ H) (ev:Ev Mv w μ w' ay):Marks s w' ds:=
 ⟨hm.nodup,hm.new,fun d hd=>(ev.same d (IS.1 (hm.vg d hd)).1 fun ⟨r,m,hr,hb⟩=>hs.frame r m d hr hb (.inr hd)).1.trans (hm.vg d hd)⟩
def Gz (Mv X:Nat->Prop) (G:aq) (n s:Nat) (w:World) (μ:Mu) (Q:Exit->St->Prop) (e:Exit) (a':Act) (w':World):Prop:=
 ∃ ds ay aw,Q e aw/\Marks s w' ds/\In w' (XD X ds) G ay ⟨n,ds.map mark,none⟩ a' aw/\Ev Mv w μ w' ay
def dO (P:Program) (Mv X:Nat->Prop) (G:aq) (n s:Nat) (c:Code) (Q:Exit->St->Prop) (σ:St):Prop:=
 ∀ ds w μ a,s<=w.heap.size->Marks s w ds->In w (XD X ds) G μ ⟨n,ds.map mark,none⟩ a σ->c.wpIn (wd none) 0 P (Gz Mv X G n s w μ Q) a w
theorem yw {n s:Nat} {c:Code} {Q:Exit->St->Prop} (h:∀ X' ds,AW P Mv X' G ⟨n,ds,none⟩ c Q σ):dO P Mv X G n s c Q σ:=fun ds w μ a hs hm hi=>
 wpIn_mono (h (XD X ds) _ w μ a hi) fun e a' w' ⟨ay,aw,q,i,ev⟩=>⟨ds,ay,aw,q,hm.ev hi.aX ev,i,ev⟩
theorem dO.mono {n s:Nat} {c:Code} {Q Q':Exit->St->Prop} (h:dO P Mv X G n s c Q σ) (hq:∀ e σ,Q e σ->Q' e σ):dO P Mv X G n s c Q' σ:=fun ds w μ a hs hm hi=>
 wpIn_mono (h ds w μ a hs hm hi) fun _ _ _ ⟨ds',ay,aw,q,r⟩=>⟨ds',ay,aw,hq _ _ q,r⟩
theorem dO.imp {n s:Nat} {c:Code} {Q:Exit->St->Prop} {τ:St} (hi:∀ X' ds,aB Mv X' G ⟨n,ds,none⟩ σ τ) (h:dO P Mv X G n s c Q τ):dO P Mv X G n s c Q σ:=fun ds w μ a hs hm aF=>by
 obtain⟨iM,h1,e1⟩:=hi (XD X ds) _ w μ a aF;exact wpIn_mono (h ds w iM a hs hm h1) fun e a' w' ⟨ds',ay,aw,q,m,i,ev⟩=>⟨ds',ay,aw,q,m,i,e1.trans ev⟩
theorem yx {n s:Nat} {x y:Code} {Q:Exit->St->Prop} (h:dO P Mv X G n s x (aJ (dO P Mv X G n s y Q) Q) σ):dO P Mv X G n s (.seq x y) Q σ:=fun ds w μ a hs hm hi=>
 wpIn_seq (wpIn_mono (h ds w μ a hs hm hi) fun e a' w' ⟨ds',ay,aw,q,m,i,ev⟩=>by
  cases e with
  | normal=>exact wpIn_mono (q ds' w' ay a' (aew hs ev.size) m i) fun e2 a2 w2 ⟨Pf,μ2,eL,q2,m2,i2,rX⟩=>⟨Pf,μ2,eL,q2,m2,i2,ev.trans rX⟩
  | _=>exact⟨ds',ay,aw,q,m,i,ev⟩)
theorem MY {n s id:Nat} {c:Code} {Q:Exit->St->Prop} (h:dO P Mv X G n s c (aL id Q) σ):dO P Mv X G n s (.block id c) Q σ:=fun ds w μ a hs hm hi=>
 wpIn_block (wpIn_mono (h ds w μ a hs hm hi) fun e a' w' ⟨ds',ay,aw,q,m,i,ev⟩=>by
  cases e with
  | exit zZ=>
   simp only[aL]at q;simp only[Exit.inBlock];split
   .rename_i he;rw[if_pos he]at q;exact⟨ds',ay,aw,q,m,i,ev⟩
   .rename_i he;rw[if_neg he]at q;exact⟨ds',ay,aw,q,m,i,ev⟩
  | _=>exact⟨ds',ay,aw,q,m,i,ev⟩)
theorem Uf {fn:Func} {tmps:Array Value} {R:Ending->World->Prop}:∀ (ds:List Nat) (w:World),ds.Nodup->(∀ d∈ds,w.heap[d]? = some (.deferred (some [])))->
  (∀ w',w'.heap.size=w.heap.size->w'.os=w.os->w'.tape=w.tape->w'.output=w.output->(∀ b,b ∉ ds->w'.heap[b]? = w.heap[b]?)->∃ v,(results fn tmps).run P w' = .ok v w'/\R (.returned v) w')->
  LeavesInM (wd none) 0 P fn tmps R (ds.map mark) .returning w:=by
 intro ds
 induction ds with
 | nil=>
  intro w _ _ h;obtain⟨v,hv,hR⟩:=h w rfl rfl rfl rfl fun _ _=>rfl;show LeavesIn (wd none) 0 P fn tmps R [] .returning w;exact⟨v,hv,hR⟩
 | cons d ds ih=>
  intro w hn ho h;obtain⟨hd,hn⟩:=acF.1 hn;refine⟨by simp,.inl ⟨d,w.putObj d (.deferred none),rfl,run_takeDeferred (ho d (by simp)),ih _ hn (fun e he=>?_) fun w' h1 h2 h3 h4 h5=>?_⟩⟩
  .rw[World.putObj_heap_other (fun e':e=d=>hd (by rw[<- e'];exact he))];exact ho e (by simp[he])
  .refine h w' (by simpa using h1) h2 h3 h4 fun b hb=>?_;rw[h5 b (fun e=>hb (by simp[e])),World.putObj_heap_other (fun e=>hb (by simp[e]))]
theorem In.shut {n:Nat} {ds:List Nat} (hi:In w (XD X ds) G μ ⟨n,ds.map mark,none⟩ a σ) (h1:w'.heap.size=w.heap.size) (h5:∀ b,b ∉ ds->w'.heap[b]? = w.heap[b]?):In w' X G μ ⟨n,[],none⟩ { a with defers:=[] } σ:=
 hi.turn (fun b hb=>.inl (.inl hb)) (fun b _ hb=>h5 b fun e=>hb (.inr e)) (by omega) rfl rfl rfl
theorem Ev.shut {s:Nat} {w0:World} {gn:Mu} {ds:List Nat} (h:Ev Mv w0 gn w μ) (hm:Marks s w ds) (hs:w0.heap.size<=s) (h1:w'.heap.size=w.heap.size) (h2:w'.os=w.os) (h3:w'.tape=w.tape) (h4:w'.output=w.output) (h5:∀ b,b ∉ ds->w'.heap[b]? = w.heap[b]?):Ev Mv w0 gn w' μ:=
 ⟨by have:=h.size;omega,h2.trans h.os,h3.trans h.tape,h4.trans h.output,fun b hb hr=>by
  have h6:=h.same b hb hr
  exact⟨(h5 b fun e=>by have:=hm.new b e;omega).trans h6.1,h6.2⟩,h.kept⟩
theorem ar.Vp (hg:Good P T) {g:FuncId} {fn:Func} {c:Code} {rs:List ResultVar} {ds:List D} {y:D} (hf:P.funcs[g]? = some fn) (hb:fn.body=some c) (hn:(fn.name == "runtime.NumGoroutine")=false) (gB:fn.results=rs.toArray)
  (hN:ds.length<=fn.ntmps) (h:∀ X s,dO P (fun _=>True) X G fn.ntmps s c (B0 T rs y) ⟨args (ds.map .d),fD⟩):ar P G g ds y:=by
 refine⟨fe.of hf hb hn,fun X w μ vs hs hgl aK hv=>?_⟩
 refine (callsIn_wide (n:=0)).1 (callsIn_of_wp_marks hf hb trivial (wpIn_mono (h X w.heap.size [] w μ _ (abL _) ⟨List.nodup_nil,by simp,by simp⟩
  (In.turn (X:=X) (N:=⟨fn.ntmps,[],none⟩) (a:={ tmps:=vs ++ Array.replicate (fn.ntmps - vs.size) undef,defers:=[] }) ⟨hs,⟨rfl,by simp;simp at aK;omega,fun i x hx=>?_⟩,hgl⟩ (fun b hb=>.inl (hb.elim id (by simp))) (fun _ _ _=>rfl) (abL _) rfl rfl rfl)) fun e a' w' ⟨ds',ay,aw,q,hm,i,ev⟩=>?_))
 .simp only[args]at hx;have hi:i < (ds.map AV.d).length:=(OF.1 hx).1
  have nR:vs[i]? = some vs[i]:=by rw[acb]
  exact⟨vs[i],by rw[acM (by omega),nR],hv i _ x nR hx⟩
 .have fin:tT T rs y aw->LeavesInM (wd none) 0 P fn a'.tmps (fun e w'=>∃ v x H' ay,e = .returned v/\(x = .d y/\H'=fD)/\RV w' X ay v x/\Sim w' X ay H'/\Ev (fun _=>True) w μ w' ay) a'.defers .returning w':=fun he=>by
   rw[i.env.defers];refine Uf ds' w' hm.nodup hm.vg fun w2 h1 h2 h3 h4 h5=>?_;have hi:=i.shut h1 h5;have aH:=ev.shut hm (abL _) h1 h2 h3 h4 h5;unfold tT at he;split at he
   .rename_i c xs hx;obtain⟨hc,he⟩:=he;split at he
    .rename_i y' hy;obtain⟨v,hv,hr⟩:=Fz (P:=P) hg hi gB hx hc;have bD:=(agC hi.aX 6 hy hr).le he;refine⟨v,hv,v,.d y,fD,fun _=>none,rfl,⟨rfl,rfl⟩,.d (bD.sub fun b=>k8.1),Sim.none hi.aX.fits,aH.size,aH.os,aH.tape,aH.output,fun b hb hr=>⟨(aH.same b hb hr).1,fun ⟨_,_,h,_⟩=>by cases h⟩,fun r m _ hn=>absurd trivial hn⟩
    .exact he.elim
   .exact he.elim
  cases e with
  | normal=>exact fin q
  | ret=>exact fin q
  | _=>exact q.elim
structure Grown (B:Nat->Prop) (w w':World):Prop where
 size:w.heap.size<=w'.heap.size
 os:w'.os=w.os
 tape:w'.tape=w.tape
 output:w'.output=w.output
 same:∀ b,b < w.heap.size->¬ B b->w'.heap[b]? = w.heap[b]?
structure Kept (B:Nat->Prop) (w w':World):Prop where
 size:w.heap.size<=w'.heap.size
 same:∀ b,B b->w'.heap[b]? = w.heap[b]?
def GB (G:aq) (b:Nat):Prop:=∃ x,G b=some x/\((∃ l,x = .ip l)\/∃ cs,x = .lN cs)
theorem BG {G:aq} {w:World} {X:Nat->Prop} (hgl:∀ g x,G g=some x->RD w X (.pointer (some ⟨g,0,none⟩)) x) {b:Nat} (h:GB G b):¬ X b/\b < w.heap.size:=by
 obtain⟨x,hx,h | h⟩:=h
 .obtain⟨l,rfl⟩:=h;have h1:=hgl _ _ hx;generalize hy:D.ip l=y at h1;generalize hv:Value.pointer (some ⟨b,0,none⟩)=v at h1;cases h1<;>cases hy;rename_i hX hb _ _;injection hv with hv;injection hv with hv;injection hv with hv;subst hv;exact⟨hX,hb⟩
 .obtain⟨cs,rfl⟩:=h;have h1:=hgl _ _ hx;generalize hy:D.lN cs=y at h1;generalize hv:Value.pointer (some ⟨b,0,none⟩)=v at h1;cases h1<;>cases hy;rename_i hX hb;injection hv with hv;injection hv with hv;injection hv with hv;subst hv;exact⟨hX,(IS.1 hb).1⟩
def ag1 (P:Program) (gf:FuncId) (lb:Array Value) (B C:Nat->Prop) (xs:List Value) (w0:World):Prop:=
 ∀ (l:Nat) (J:Nat->World->Prop) (Jx:World->Prop),(∀ k W W',J k W->Grown B W W'->J k W')->(∀ W W',Jx W->Grown B W W'->Jx W')->
  (∀ k (hk:k < xs.length) W,J k W->YieldAt (wd none) 0 P l #[xs[k]] W fun e W'=>(e = .returned (.bool true)/\J (k+1) W'/\Kept C W W')\/(e = .returned (.bool false)/\Jx W'))->
  ∀ w1,Kept C w0 w1->J 0 w1->Calls P gf (#[.func (.yield l) #[] #[]] ++ lb) w1 fun e W'=>(∃ v,e = .returned v)/\(J xs.length W'\/Jx W')
def lE (it:List Nat) (q:Nat):Bool:=!it.contains q
def s8 (it:List Nat) (q off n:Nat):AV:=if it.contains q then .dead else .own q off n
def rf (it:List Nat) (q e j:Nat):AV:=if it.contains q then .dead else .ref q e j
theorem In.rest {e0:Env} {H0:Heap} (it:List Nat) (hi:In w X G μ N a ⟨e0,H0⟩):In w (XX X (bL it.contains μ)) G (bL (lE it) μ) N a ⟨fun i=>(e0 i).map (AV.tr (s8 it) (rf it)),trH (lE it) (s8 it) (rf it) H0⟩:=by
 have hXX:∀ b,XX (XX X (bL it.contains μ)) (bL (lE it) μ) b->XX X μ b:=fun b hb=>hb.elim (fun hb=>hb.elim .inl fun h=>.inr (oO h)) fun h=>.inr (oO h);have hD:∀ u d,RD w (XX X μ) u d->RD w (XX (XX X (bL it.contains μ)) (bL (lE it) μ)) u d:=fun u d h=>h.sub hXX
 have hm:∀ q m,it.contains q=false->μ q=some m->bL (lE it) μ q=some m:=fun q m hk h=>by simp only[bL,lE,hk,adg,if_true];exact h
 have hV:∀ u x,RV w X μ u x->RV w (XX X (bL it.contains μ)) (bL (lE it) μ) u (x.tr (s8 it) (rf it)):=fun u x=>RV.tq hD (fun u r off n h=>by
   unfold s8;split
   .exact .dead u
   .rename_i hk;obtain⟨m,h1,h2⟩:=h.je
    exact .own (hm r m (by simpa using hk) h1) h2) (fun u r e j h=>by
   unfold rf;split
   .exact .dead u
   .rename_i hk;obtain⟨m,b,h1,h2,rfl⟩:=h.ik
    exact .ref (hm r m (by simpa using hk) h1) h2)
 refine⟨⟨fun r row hr=>?_,fun r m hr=>?_,fun q q' m1 m2 b h1 h2 hb1 hb2=>hi.aX.inj q q' m1 m2 b (adt h1).2 (adt h2).2 hb1 hb2,fun q m b hq hb hX=>?_,fun b hb=>hb.elim (hi.aX.fits b) fun h=>hi.aX.jl (oO h)⟩,⟨hi.env.defers,hi.env.size,fun i x hx=>?_⟩,fun g x hx=>hD _ _ (hi.gr g x hx)⟩
 .dsimp only[trH]at hr;split at hr
  .rename_i hk;obtain⟨kY,h0,rfl⟩:=AT.1 hr;obtain⟨m,h1,ok⟩:=hi.aX.rows r kY h0;exact⟨m,hm r m (by simpa[lE]using hk) h1,ok.tq (fun _ _=>rfl) hD hV⟩
  .cases hr
 .obtain⟨hk,h1⟩:=adt hr;obtain⟨row,h0⟩:=hi.aX.iy r m h1;exact⟨row.tr (s8 it) (rf it),by dsimp only[trH];rw[if_pos hk];dsimp only at h0;rw[h0];rfl⟩
 .obtain⟨hk,h1⟩:=adt hq
  rcases hX with h | ⟨q',m',hq',aU⟩
  .exact hi.aX.frame q m b h1 hb h
  .obtain⟨eQ,CH⟩:=adt hq';obtain rfl:=hi.aX.inj q q' m m' b h1 CH hb aU;simp only[lE,eQ,Bool.not_true,abT]at hk
 .obtain⟨y,hy,rfl⟩:=AT.1 hx;obtain⟨u,hu,hr⟩:=hi.env.slot i y hy;exact⟨u,hu,hV u y hr⟩
def yi (fx:List Nat):AV->Prop
 | .d _=>True
 | .ref r _ _=>fx.contains r=true
 | _=>False
def Yf (P:Program) (X:Nat->Prop) (G:aq) (N:Fr) (fx:List Nat) (Q:Exit->St->Prop) (e1:Env) (next:Heap) (nx:Prop):Exit->St->Prop
 | .normal,σ=>nx/\aB (gg fx) X G N σ ⟨fun _=>none,next⟩
 | .ret,σ=>∃ H,aB (gg fx) X G N σ ⟨fun _=>none,H⟩/\Q .ret ⟨e1,H⟩
 | .exit id,σ=>∃ H,aB (gg fx) X G N σ ⟨fun _=>none,H⟩/\Q (.exit id) ⟨e1,H⟩
 | _,_=>False
theorem RV.yi {X X':Nat->Prop} {l:Nat} {μ ay:Mu} {fx:List Nat} {u:Value} {x:AV} (hs:yi fx x) (ev:ng l (gg fx) w μ w' ay) (hl:X l) (hX:∀ b,X' b->X b) (hr:RV w X μ u x):RV w' X' ay u x:=by
 cases x with
 | d x=>exact .d (hr.data.mono ev.size fun b hb aU=>by
   have h:=ev.same b hb (fun e=>aU (.inl (e ▸ hl))) fun e=>aU (.inr e)
   exact⟨h.1,fun e=>e.elim (fun e=>aU (.inl (hX b e))) h.2⟩)
 | ref r e j=>
  obtain⟨m,b,hm,hb,rfl⟩:=hr.ik;exact .ref (ev.kept r m hm (by unfold gg;unfold Av.yi at hs;rw[hs];simp)) hb
 | _=>exact hs.elim
theorem MZ {n s:Nat} {g:Operand} {p:Tmp} {assign body:Code} {Q:Exit->St->Prop} {e0:Env} {H0:Heap} {gf:FuncId} {caps:List AV} (xs:List Value) (it fx:List Nat) (e1:Env) (inv:Nat->Heap) (ok:Nat->Prop) (ahQ:ok 0)
  (hg:bh G e0 g=some (.fn (.func gf) caps)) (hF:fe P gf) (hp:p < n)
  (hIt:∀ (w:World) (X:Nat->Prop) (μ:Mu) (lb:Array Value),Sim w X μ (trH it.contains (acH it) (acG it) H0)->(∀ g x,G g=some x->RD w (XX X μ) (.pointer (some ⟨g,0,none⟩)) x)->lb.size=caps.length->(∀ (i:Nat) (u:Value) (x:AV),lb[i]? = some u->caps[i]? = some x->RV w X μ u (x.tr (acH it) (acG it)))->ag1 P gf lb (ran μ) (fun b=>ran μ b\/GB G b) xs w)
  (he1:∀ i x,e1 i=some x->yi fx x/\∃ y,e0 i=some y/\y.tr (s8 it) (rf it)=x) (hH:trH (lE it) (s8 it) (rf it) H0=inv 0) (QK:∀ q,gg fx q->Mv q) (hfx:∀ q,fx.contains q=true->it.contains q=false)
  (SM:∀ X' l k (hk:k < xs.length),ok k->AW P (gg fx) X' G ⟨n,[],some l⟩ assign (aJ (AW P (gg fx) X' G ⟨n,[],some l⟩ body (Yf P X' G ⟨n,[],some l⟩ fx Q e1 (inv (k+1)) (ok (k+1)))) (fun _ _=>False)) ⟨eW e1 p (.d (.v xs[k])),inv k⟩)
  (RB:ok xs.length->Q .normal ⟨e1,inv xs.length⟩):dO P Mv X G n s (.rangeFunc g #[p] assign body) Q ⟨e0,H0⟩:=by
 intro ds w μ a uJ hm hi
 obtain⟨lb,ke,uz,qQ⟩:∃ lb:Array Value,a.eval g = .func (.func gf) #[] lb/\lb.size=caps.length/\∀ (i:Nat) (u:Value) (x:AV),lb[i]? = some u->caps[i]? = some x->RV w (XD X ds) μ u x:=by
  have h:=hi.eval hg;generalize a.eval g=v at h ⊢
  cases h with
  | fn hn hr=>exact⟨_,rfl,hn,hr⟩
 have b9:=hi.rest it;obtain⟨DT,jy⟩:=hi.aX.part it;have hit:=hIt w _ _ lb DT (fun g x hx=>(hi.gr g x hx).sub fun b=>BQ.1) uz fun i u x hu hx=>jy (qQ i u x hu hx);generalize hB:bL it.contains μ=qb at b9 DT hit;have ag3:∀ b,ran qb b->ran μ b:=fun b h=>oO (hB ▸ h);have zn:∀ b,ran qb b->b < w.heap.size:=fun b h=>hi.aX.jl (ag3 b h);rw[hH]at b9
 have hi1:In w (XX (XD X ds) qb) G (bL (lE it) μ) ⟨n,ds.map mark,none⟩ a ⟨e1,inv 0⟩:=⟨b9.aX,⟨b9.env.defers,b9.env.size,fun i x hx=>by
  obtain⟨_,y,hy,rfl⟩:=he1 i x hx
  exact b9.env.slot i _ (by dsimp only;rw[hy];rfl)⟩,b9.gr⟩
 clear b9 jy DT;refine wpIn_rangeFunc fun fn _=>?_;generalize hD:w.heap.size=d at *;obtain⟨rec,sy⟩:∃ rec:LoopState->Option Code->Loop,rec=fun st pe=>{ state:=st,pending:=pe,fn,tmps:=a.tmps,params:=#[p],assign,body,defers:=d }:=⟨_,rfl⟩;obtain⟨W1,wI⟩:∃ W1,(w.alloc (.deferred (some []))).alloc (.loop (rec .ready none))=W1:=⟨_,rfl⟩
 have uO:W1.heap.size=d+2:=by rw[<- wI];simp;omega
 have pI:bZ w W1:=by
  rw[<- wI];have h1:=bZ.alloc w (.deferred (some []));have h2:=bZ.alloc (w.alloc (.deferred (some []))) (.loop (rec .ready none));exact⟨aew h1.size h2.size,h2.os.trans h1.os,h2.tape.trans h1.tape,h2.output.trans h1.output,fun b hb=>(h2.same b (acP hb h1.size)).trans (h1.same b hb)⟩
 have r4:W1.heap[d+1]? = some (.loop (rec .ready none)):=by
  rw[<- wI];have:=World.alloc_heap_new (w.alloc (.deferred (some []))) (.loop (rec .ready none));rwa [World.size_alloc,hD]at this
 have ax:W1.heap[d]? = some (.deferred (some [])):=by
  rw[<- wI,(bZ.alloc (w.alloc (.deferred (some []))) (.loop (rec .ready none))).same d (by simp;omega),<- hD];exact World.alloc_heap_new w _
 let X':Nat->Prop:=fun b=>XX (XD X ds) qb b\/b=d\/b=d+1
 have aaE:∀ b,XX (XD X ds) qb b->b < d:=fun b hb=>by have:=hi1.aX.fits b hb;omega
 have eE:In W1 X' G (bL (lE it) μ) ⟨n,ds.map mark,none⟩ a ⟨e1,inv 0⟩:=hi1.turn (fun b hb=>hb.elim .inl fun hb=>.inr (by omega)) (fun b hb _=>pI.same b hb) pI.size hi1.env.defers rfl rfl
 have Dq:Ev (gg fx) w μ W1 (bL (lE it) μ):=⟨pI.size,pI.os,pI.tape,pI.output,fun b hb hr=>⟨pI.same b hb,fun h=>hr (oO h)⟩,fun q m hq hn=>by
  have RM:fx.contains q=true:=by
   cases h:fx.contains q with
   | true=>rfl
   | false=>exact absurd h hn
  simp only[bL,lE,hfx q RM,adg,if_true];exact hq⟩
 let At (st:LoopState) (pe:Option Code) (H:Heap) (W:World):Prop:=(∃ ay,In W X' G ay ⟨n,ds.map mark,none⟩ a ⟨e1,H⟩/\Ev (gg fx) w μ W ay)/\W.heap[d+1]? = some (.loop (rec st pe))/\W.heap[d]? = some (.deferred (some []))
 have HX:∀ st pe H W W',At st pe H W->Grown (ran qb) W W'->At st pe H W':=by
  rintro st pe H W W' ⟨⟨ay,aF,aH⟩,hl,hk⟩ hgr;have au:d+1 < W.heap.size:=(IS.1 hl).1
  have I5:∀ b,d<=b->¬ ran qb b:=fun b hb h=>by have:=zn b h;omega
  refine⟨⟨ay,aF.turn (fun b hb=>.inl hb) (fun b hb hx=>hgr.same b hb fun h=>hx (.inl (.inr h))) hgr.size aF.env.defers rfl rfl,⟨aew aH.size hgr.size,hgr.os.trans aH.os,hgr.tape.trans aH.tape,hgr.output.trans aH.output,fun b hb hr=>?_,aH.kept⟩⟩,(hgr.same _ au (I5 _ (by omega))).trans hl,(hgr.same _ (by omega) (I5 _ (abL _))).trans hk⟩;have h:=aH.same b hb hr;exact⟨(hgr.same b (acP hb aH.size) fun hh=>hr (ag3 b hh)).trans h.1,h.2⟩
 let Jx:World->Prop:=fun W=>∃ (c:Code) (H:Heap),((c=Code.ret/\Q .ret ⟨e1,H⟩)\/∃ id,c=Code.exit id/\Q (.exit id) ⟨e1,H⟩)/\At .done (some c) H W
 have SN:∀ k (hk:k < xs.length) W,ok k/\At .ready none (inv k) W->YieldAt (wd none) 0 P (d+1) #[xs[k]] W fun e W'=>
   (e = .returned (.bool true)/\(ok (k+1)/\At .ready none (inv (k+1)) W')/\Kept (fun b=>ran qb b\/GB G b) W W')\/(e = .returned (.bool false)/\Jx W'):=by
  rintro k hk W ⟨Sv,⟨ay,aF,aH⟩,hl,R6⟩;have au:d+1 < W.heap.size:=(IS.1 hl).1;have hy:=run_yield (P:=P) (args:=#[xs[k]]) hl (by rw[sy];rfl);rw[sy]at hy;refine⟨fn,_,assign,body,hy,roundIn_of_wpIn (F:=wd none) trivial ?_⟩;clear hy
  have RL:(((#[p]:Array Tmp).zip #[xs[k]]).foldl (fun tmps (t,a)=>tmps.setIfInBounds t a) a.tmps)=a.tmps.setIfInBounds p xs[k]:=by simp
  show assign.wpIn (wd (some (d+1))) 0 P _ { tmps:=(((#[p]:Array Tmp).zip #[xs[k]]).foldl (fun tmps (t,a)=>tmps.setIfInBounds t a) a.tmps),defers:=[] } W;rw[RL];have aK:=aF.env.size
  have RX:In W X' G ay ⟨n,[],some (d+1)⟩ { tmps:=a.tmps.setIfInBounds p xs[k],defers:=[] } ⟨eW e1 p (.d (.v xs[k])),inv k⟩:=⟨aF.aX,⟨rfl,by simpa using aK,fun i x hx=>by
   simp only[eW]at hx;split at hx
   .rename_i e;obtain rfl:=AI hx
    have:p < a.tmps.size:=by rw[aK];exact hp
    exact⟨xs[k],by rw[e];simp[this],.d (.v _)⟩
   .rename_i e;obtain⟨u,hu,hr⟩:=aF.env.slot i x hx
    exact⟨u,by simp[Array.getElem?_setIfInBounds,adr e,hu],hr⟩⟩,aF.gr⟩
  refine wpIn_mono (SM X' (d+1) k hk Sv W ay _ RX) fun e a1 w1 ⟨iM,aG,q1,JD,nq⟩=>?_
  cases e with
  | normal=>
   have fU:X' (d+1):=.inr (.inr rfl);have Ix:X' d:=.inr (.inl rfl);have nE:∀ {W:World} {μ:Mu} {H:Heap} {b:Nat},Sim W X' μ H->X' b->¬ ran μ b:=fun hs hx ⟨r,m,h1,h2⟩=>hs.frame r m _ h1 h2 hx;have hl1:=(nq.same _ au (nE aF.aX fU)).1.trans hl;have bq:=(nq.same d (by omega) (nE aF.aX Ix)).1.trans R6;have DI:d+1 < w1.heap.size:=(IS.1 hl1).1;refine⟨_,run_beginRound hl1 (by rw[sy]),?_⟩;have Eg:In (w1.putObj (d+1) (.loop { rec .ready none with state:=.busy })) X' G iM ⟨n,[],some (d+1)⟩ a1 aG:=JD.turn (fun b hb=>.inl hb) (fun b hb hx=>World.putObj_heap_other fun e=>hx (e ▸ fU)) (by simp) JD.env.defers rfl rfl;have evb:ng (d+1) (gg fx) W ay (w1.putObj (d+1) (.loop { rec .ready none with state:=.busy })) iM:=(nq.but _).trans (.put _ _ _ _ _);refine wpIn_mono (q1 _ iM a1 Eg) fun e a3 w3 ⟨μ3,fc,q3,Te,v8⟩=>?_;have I0:w3.heap[d+1]? = some (.loop { rec .ready none with state:=.busy }):=(v8.same (d+1) (by simpa using DI) (nE Eg.aX fU)).1.trans (World.putObj_heap_same DI);have cY:w3.heap[d]? = some (.deferred (some [])):=(v8.same d (by simp;omega) (nE Eg.aX Ix)).1.trans ((World.putObj_heap_other (by omega)).trans bq);have evc:=evb.trans (v8.but (d+1));have ju:d+1 < w3.heap.size:=(IS.1 I0).1
   have fin:∀ (jump:Option Code) (H:Heap),aB (gg fx) X' G ⟨n,[],some (d+1)⟩ fc ⟨fun _=>none,H⟩->∃ w4,(Instr.endRound (d+1) jump).run P w3 = .ok (.bool jump.isNone) w4/\At (if jump.isNone then .ready else .done) jump H w4/\Kept (fun b=>ran qb b\/GB G b) W w4:=fun jump H himp=>by
    obtain⟨MW,JE,ev4⟩:=himp w3 μ3 a3 Te;have wa:=(evc.trans (ev4.but (d+1))).trans (.put (gg fx) w3 MW (d+1) (.loop (rec (if jump.isNone then .ready else .done) jump)));refine⟨w3.putObj (d+1) (.loop (rec (if jump.isNone then .ready else .done) jump)),?_,⟨⟨MW,?_,?_⟩,World.putObj_heap_same ju,(World.putObj_heap_other (by omega)).trans cY⟩,wa.size,fun b hb=>?_⟩
    .have:=run_endRound (P:=P) jump I0;rw[sy]at this ⊢;exact this
    .have Jm:=(JE.turn (N':=⟨n,[],some (d+1)⟩) (X':=X') (w':=w3.putObj (d+1) (.loop (rec (if jump.isNone then .ready else .done) jump))) (fun b hb=>.inl hb) (fun b hb hx=>World.putObj_heap_other fun e=>hx (e ▸ fU)) (by simp) JE.env.defers rfl rfl)
     exact⟨Jm.aX,⟨aF.env.defers,aF.env.size,fun i x hx=>by
      obtain⟨u,hu,hr⟩:=aF.env.slot i x hx
      exact⟨u,hu,hr.yi (he1 i x hx).1 wa fU fun b hb=>hb⟩⟩,Jm.gr⟩
    .exact ((aH.but (d+1)).trans wa).ev (by omega)
    .rcases hb with hb | hb
     .exact (wa.same b (by have:=zn b hb;omega) (fun e=>by have:=zn b hb;omega) (nE aF.aX (.inl (.inr hb)))).1
     .obtain⟨h1,h2⟩:=BG aF.gr hb;exact (wa.same b h2 (fun e=>h1 (.inl (e ▸ fU))) fun hr=>h1 (.inr hr)).1
   cases e with
   | normal=>
    obtain⟨eH,q3⟩:=q3;obtain⟨w4,h1,h2,h3⟩:=fin none _ q3;exact⟨_,w4,h1,.inl ⟨rfl,⟨eH,h2⟩,h3⟩⟩
   | ret=>
    obtain⟨H,himp,hq⟩:=q3;obtain⟨w4,h1,h2,_⟩:=fin (some .ret) H himp;exact⟨_,w4,h1,.inr ⟨rfl,.ret,H,.inl ⟨rfl,hq⟩,h2⟩⟩
   | exit id=>
    obtain⟨H,himp,hq⟩:=q3;obtain⟨w4,h1,h2,_⟩:=fin (some (.exit id)) H himp;exact⟨_,w4,h1,.inr ⟨rfl,.exit id,H,.inr ⟨id,rfl,hq⟩,h2⟩⟩
   | _=>exact q3.elim
  | _=>exact q1.elim
 refine⟨d+1,[mark d],W1,{ target:=.fn (.func gf) lb,args:=#[.func (.yield (d+1)) #[] #[]] },W1,gf,#[.func (.yield (d+1)) #[] #[]] ++ lb,W1,?_,?_,fun _ _=>trivial,?_,fun e=>(by cases e),ML (Calls.mono
  (hit (d+1) (fun k W=>ok k/\At .ready none (inv k) W) Jx
   (fun k W W' h hgr=>⟨h.1,HX _ _ _ W W' h.2 hgr⟩) (fun W W' ⟨c,H,hq,h⟩ hgr=>⟨c,H,hq,HX _ _ _ W W' h hgr⟩) SN W1 ⟨pI.size,fun b hb=>pI.same b (hb.elim (fun h=>by have:=zn b h;omega) fun h=>by have:=(BG hi.gr h).2;omega)⟩ ⟨ahQ,⟨_,eE,Dq⟩,r4,ax⟩) ?_)⟩
 .rw[<- wI,sy];have:=run_enterLoop_outer (P:=P) (w:=w) fn a.tmps #[p] assign body;rw[hD]at this;exact this
 .simp only[resolve,ke];simp[go_sem]
 .have:=hF;simp[invoke,go_sem,hF _ W1]
 .rintro e W2 ⟨⟨v,rfl⟩,hJ⟩
  have out:∀ st pe H,st≠.busy->At st pe H W2->∃ w4,(Instr.endLoop (d+1)).run P W2 = .ok pe w4/\∀ q:Exit,Q q ⟨e1,H⟩->Gz Mv X G n s w μ Q q { a with defers:=[mark d] ++ a.defers } w4:=by
   rintro st pe H cU ⟨⟨ay,aF,aH⟩,hl,hk⟩;have au:d+1 < W2.heap.size:=(IS.1 hl).1;refine⟨W2.putObj (d+1) (.loop { rec st pe with state:=.exhausted }),?_,fun q hq=>⟨d :: ds,ay,⟨e1,H⟩,hq,⟨?_,?_,?_⟩,?_,?_⟩⟩
   .have:=run_endLoop (P:=P) hl (by rw[sy];exact cU);rw[sy]at this ⊢;exact this
   .exact acF.2 ⟨fun h=>by have:=(IS.1 (hm.vg d h)).1;omega,hm.nodup⟩
   .intro x hx
    rcases abV.1 hx with rfl | hx
    .omega
    .exact hm.new x hx
   .intro x hx
    rcases abV.1 hx with rfl | hx
    .exact (World.putObj_heap_other (by omega)).trans hk
    .have h0:=(IS.1 (hm.vg x hx)).1;have h1:=aH.same x h0 fun ⟨r,m,h1,h2⟩=>hi.aX.frame r m x h1 h2 (.inr hx);exact (World.putObj_heap_other (by omega)).trans (h1.1.trans (hm.vg x hx))
   .refine aF.turn (fun b hb=>.inl ?_) (fun b hb hx=>World.putObj_heap_other fun e=>hx (.inr (.inr e))) (by simp) ?_ rfl rfl
    .rcases hb with hb | hb
     .exact .inl (.inl (.inl hb))
     .rcases abV.1 hb with rfl | hb
      .exact .inr (.inl rfl)
      .exact .inl (.inl (.inr hb))
    .show [mark d] ++ a.defers=(d :: ds).map mark;rw[aF.env.defers];rfl
   .refine (((aH.but (d+1)).trans (.put _ _ _ _ _)).ev (by omega)).weaken fun q m _ hq=>QK q hq
  rcases hJ with⟨Su,hJ⟩ | ⟨c,H,hq,hJ⟩
  .obtain⟨w4,h1,h2⟩:=out _ _ _ (by simp) hJ;exact⟨none,w4,h1,h2 .normal (RB Su)⟩
  .obtain⟨w4,h1,h2⟩:=out _ _ _ (by simp) hJ;refine⟨some c,w4,h1,?_⟩
   rcases hq with⟨rfl,hq⟩ | ⟨id,rfl,hq⟩
   .exact wpIn_ret (h2 .ret hq)
   .exact wpIn_exit (h2 (.exit id) hq)
end
