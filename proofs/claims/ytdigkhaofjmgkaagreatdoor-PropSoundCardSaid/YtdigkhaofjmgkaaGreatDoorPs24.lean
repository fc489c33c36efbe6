/- Parts. -/
import Derived.Test.YtdigkhaofjmgkaaGreatDoorPs10
import Derived.RangeFuncSeq
set_option linter.unusedSectionVars false
set_option linter.unusedSimpArgs false
set_option linter.unusedVariables false
set_option maxHeartbeats 1000000
namespace Go.Av
def mark (d:Nat):Deferred:={ target:=.collected d,args:=#[] }
structure Marks (s:Nat) (w:World) (ds:List Nat):Prop where
 nodup:ds.Nodup
 new:∀ d∈ds,s<=d
 rJ:∀ d∈ds,w.heap[d]? = some (.deferred (some []))
def XD (X:Nat->Prop) (ds:List Nat) (b:Nat):Prop:=X b\/b∈ds
structure lg (l:Nat) (Mv:Nat->Prop) (w:World) (μ:Mu) (w':World) (ak:Mu):Prop where
 size:w.heap.size<=w'.heap.size
 os:w'.os=w.os
 tape:w'.tape=w.tape
 output:w'.output=w.output
 same:∀ b,b < w.heap.size->b≠l->¬ eU μ b->w'.heap[b]? = w.heap[b]?/\¬ eU ak b
 kept:∀ r m,μ r=some m->¬ Mv r->ak r=some m
theorem Ev.but {Mv:Nat->Prop} {w w':World} {μ ak:Mu} (h:Ev Mv w μ w' ak) (l:Nat):lg l Mv w μ w' ak:=⟨h.size,h.os,h.tape,h.output,fun b hb _ hr=>h.same b hb hr,h.kept⟩
theorem lg.trans {l:Nat} {Mv:Nat->Prop} {w w1 w2:World} {μ μ1 fv:Mu} (h:lg l Mv w μ w1 μ1) (h':lg l Mv w1 μ1 w2 fv):lg l Mv w μ w2 fv:=
 ⟨Nat.le_trans h.size h'.size,h'.os.trans h.os,h'.tape.trans h.tape,h'.output.trans h.output,fun b hb hl hr=>
  have h1:=h.same b hb hl hr;have h2:=h'.same b (Nat.lt_of_lt_of_le hb h.size) hl h1.2
  ⟨h2.1.trans h1.1,h2.2⟩,fun r m hm hn=>h'.kept r m (h.kept r m hm hn) hn⟩
theorem lg.put (Mv:Nat->Prop) (w:World) (μ:Mu) (l:Nat) (o:Obj):lg l Mv w μ (w.putObj l o) μ:=
 ⟨by simp,rfl,rfl,rfl,fun b _ hl hr=>⟨World.putObj_heap_other hl,hr⟩,fun _ _ h _=>h⟩
theorem lg.ev {l:Nat} {Mv:Nat->Prop} {w w':World} {μ ak:Mu} (h:lg l Mv w μ w' ak) (hl:w.heap.size<=l):Ev Mv w μ w' ak:=
 ⟨h.size,h.os,h.tape,h.output,fun b hb hr=>h.same b hb (by omega) hr,h.kept⟩
section
variable {P:Program} {T:Ty} {Mv X:Nat->Prop} {G:Yt} {N:Fr} {w w':World} {μ:Mu} {a:Act} {σ:St}
theorem In.turn {N':Fr} {X':Nat->Prop} {a':Act} (hi:In w X G μ N a σ) (hX:∀ b,X' b->X b\/(w.heap.size<=b/\b < w'.heap.size)) (abA:∀ b,b < w.heap.size->¬ X b->w'.heap[b]? = w.heap[b]?) (aK:w.heap.size<=w'.heap.size)
  (hd:a'.defers=N'.ds) (hn:N'.n=N.n) (ht:a'.tmps=a.tmps):In w' X' G μ N' a' σ:=by
 have hD:∀ u d,RD w (XX X μ) u d->RD w' (XX X' μ) u d:=fun u d h=>h.mono aK fun b hb aH=>
  ⟨abA b hb fun e=>aH (.inl e),fun e=>aH (e.elim (fun e=>(hX b e).elim .inl fun ⟨h,_⟩=>absurd hb (Nat.not_lt.2 h)) .inr)⟩
 refine⟨⟨fun r row hr=>?_,hi.aL.gl,hi.aL.inj,fun r m b hr hb hx=>?_,fun b hb=>?_⟩,⟨hd,by rw[ht,hn];exact hi.env.size,fun i x hx=>?_⟩,fun g x hx=>hD _ _ (hi.eZ g x hx)⟩
 .obtain⟨m,hm,ok⟩:=hi.aL.rows r row hr;exact⟨m,hm,ok.lift (fun b hb=>abA b (ok.ZZ hb) (hi.aL.frame r m b hm hb)) hD fun _ _ h=>h⟩
 .have Yv:=hi.aL.ZZ ⟨r,m,hr,hb⟩;exact (hX b hx).elim (hi.aL.frame r m b hr hb) fun ⟨h,_⟩=>absurd Yv (Nat.not_lt.2 h)
 .exact (hX b hb).elim (fun h=>Nat.lt_of_lt_of_le (hi.aL.fits b h) aK) (·.2)
 .obtain⟨u,hu,hr⟩:=hi.env.slot i x hx;exact⟨u,by rw[ht];exact hu,hr.lift hD fun _ _ h=>h⟩
theorem Marks.ev {s:Nat} {ds:List Nat} {H:Heap} {ak:Mu} (hm:Marks s w ds) (hs:cw w (XD X ds) μ H) (ev:Ev Mv w μ w' ak):Marks s w' ds:=
 ⟨hm.nodup,hm.new,fun d hd=>(ev.same d (Array.getElem?_eq_some_iff.1 (hm.rJ d hd)).1 fun ⟨r,m,hr,hb⟩=>hs.frame r m d hr hb (.inr hd)).1.trans (hm.rJ d hd)⟩
def Dh (Mv X:Nat->Prop) (G:Yt) (n s:Nat) (w:World) (μ:Mu) (Q:Exit->St->Prop) (e:Exit) (a':Act) (w':World):Prop:=
 ∃ ds ak af,Q e af/\Marks s w' ds/\In w' (XD X ds) G ak ⟨n,ds.map mark,none⟩ a' af/\Ev Mv w μ w' ak
def cR (P:Program) (Mv X:Nat->Prop) (G:Yt) (n s:Nat) (c:Code) (Q:Exit->St->Prop) (σ:St):Prop:=
 ∀ ds w μ a,s<=w.heap.size->Marks s w ds->In w (XD X ds) G μ ⟨n,ds.map mark,none⟩ a σ->c.wpIn (wd none) 0 P (Dh Mv X G n s w μ Q) a w
theorem uR {n s:Nat} {c:Code} {Q:Exit->St->Prop} (h:∀ X' ds,AW P Mv X' G ⟨n,ds,none⟩ c Q σ):cR P Mv X G n s c Q σ:=fun ds w μ a hs hm hi=>
 wpIn_mono (h (XD X ds) _ w μ a hi) fun e a' w' ⟨ak,af,q,i,ev⟩=>⟨ds,ak,af,q,hm.ev hi.aL ev,i,ev⟩
theorem cR.mono {n s:Nat} {c:Code} {Q Q':Exit->St->Prop} (h:cR P Mv X G n s c Q σ) (hq:∀ e σ,Q e σ->Q' e σ):cR P Mv X G n s c Q' σ:=fun ds w μ a hs hm hi=>
 wpIn_mono (h ds w μ a hs hm hi) fun _ _ _ ⟨dh,ak,af,q,r⟩=>⟨dh,ak,af,hq _ _ q,r⟩
theorem cR.imp {n s:Nat} {c:Code} {Q:Exit->St->Prop} {τ:St} (hi:∀ X' ds,aD Mv X' G ⟨n,ds,none⟩ σ τ) (h:cR P Mv X G n s c Q τ):cR P Mv X G n s c Q σ:=fun ds w μ a hs hm ax=>by
 obtain⟨μ1,h1,e1⟩:=hi (XD X ds) _ w μ a ax;exact wpIn_mono (h ds w μ1 a hs hm h1) fun e a' w' ⟨dh,ak,af,q,m,i,ev⟩=>⟨dh,ak,af,q,m,i,e1.trans ev⟩
theorem uS {n s:Nat} {x y:Code} {Q:Exit->St->Prop} (h:cR P Mv X G n s x (YC (cR P Mv X G n s y Q) Q) σ):cR P Mv X G n s (.seq x y) Q σ:=fun ds w μ a hs hm hi=>
 wpIn_seq (wpIn_mono (h ds w μ a hs hm hi) fun e a' w' ⟨dh,ak,af,q,m,i,ev⟩=>by
  cases e with
  | normal=>exact wpIn_mono (q dh w' ak a' (Nat.le_trans hs ev.size) m i) fun e2 a2 w2 ⟨L1,fv,Y6,q2,m2,i2,px⟩=>⟨L1,fv,Y6,q2,m2,i2,ev.trans px⟩
  | _=>exact⟨dh,ak,af,q,m,i,ev⟩)
theorem JQ {n s id:Nat} {c:Code} {Q:Exit->St->Prop} (h:cR P Mv X G n s c (bd id Q) σ):cR P Mv X G n s (.block id c) Q σ:=fun ds w μ a hs hm hi=>
 wpIn_block (wpIn_mono (h ds w μ a hs hm hi) fun e a' w' ⟨dh,ak,af,q,m,i,ev⟩=>by
  cases e with
  | exit id'=>
   simp only[bd]at q;simp only[Exit.inBlock];split
   .rename_i he;rw[if_pos he]at q;exact⟨dh,ak,af,q,m,i,ev⟩
   .rename_i he;rw[if_neg he]at q;exact⟨dh,ak,af,q,m,i,ev⟩
  | _=>exact⟨dh,ak,af,q,m,i,ev⟩)
theorem Ra {fn:Func} {tmps:Array Value} {R:Ending->World->Prop}:∀ (ds:List Nat) (w:World),ds.Nodup->(∀ d∈ds,w.heap[d]? = some (.deferred (some [])))->
  (∀ w',w'.heap.size=w.heap.size->w'.os=w.os->w'.tape=w.tape->w'.output=w.output->(∀ b,b ∉ ds->w'.heap[b]? = w.heap[b]?)->∃ v,(results fn tmps).run P w' = .ok v w'/\R (.returned v) w')->
  LeavesInM (wd none) 0 P fn tmps R (ds.map mark) .returning w:=by
 intro ds
 induction ds with
 | nil=>
  intro w _ _ h;obtain⟨v,hv,hR⟩:=h w rfl rfl rfl rfl fun _ _=>rfl;show LeavesIn (wd none) 0 P fn tmps R [] .returning w;exact⟨v,hv,hR⟩
 | cons d ds ih=>
  intro w hn ho h;obtain⟨hd,hn⟩:=List.nodup_cons.1 hn;refine⟨by simp,.inl ⟨d,w.putObj d (.deferred none),rfl,run_takeDeferred (ho d (by simp)),ih _ hn (fun e he=>?_) fun w' h1 h2 h3 h4 h5=>?_⟩⟩
  .rw[World.putObj_heap_other (fun e':e=d=>hd (by rw[<- e'];exact he))];exact ho e (by simp[he])
  .refine h w' (by simpa using h1) h2 h3 h4 fun b hb=>?_;rw[h5 b (fun e=>hb (by simp[e])),World.putObj_heap_other (fun e=>hb (by simp[e]))]
theorem In.shut {n:Nat} {ds:List Nat} (hi:In w (XD X ds) G μ ⟨n,ds.map mark,none⟩ a σ) (h1:w'.heap.size=w.heap.size) (h5:∀ b,b ∉ ds->w'.heap[b]? = w.heap[b]?):In w' X G μ ⟨n,[],none⟩ { a with defers:=[] } σ:=
 hi.turn (fun b hb=>.inl (.inl hb)) (fun b _ hb=>h5 b fun e=>hb (.inr e)) (by omega) rfl rfl rfl
theorem Ev.shut {s:Nat} {w0:World} {eX:Mu} {ds:List Nat} (h:Ev Mv w0 eX w μ) (hm:Marks s w ds) (hs:w0.heap.size<=s) (h1:w'.heap.size=w.heap.size) (h2:w'.os=w.os) (h3:w'.tape=w.tape) (h4:w'.output=w.output) (h5:∀ b,b ∉ ds->w'.heap[b]? = w.heap[b]?):Ev Mv w0 eX w' μ:=
 ⟨by have:=h.size;omega,h2.trans h.os,h3.trans h.tape,h4.trans h.output,fun b hb hr=>by
  have h6:=h.same b hb hr
  exact⟨(h5 b fun e=>by have:=hm.new b e;omega).trans h6.1,h6.2⟩,h.kept⟩
theorem ao.Sc (hg:Good P T) {g:FuncId} {fn:Func} {c:Code} {rs:List ResultVar} {ds:List D} {y:D} (hf:P.funcs[g]? = some fn) (hb:fn.body=some c) (hn:(fn.name == "runtime.NumGoroutine")=false) (hrs:fn.results=rs.toArray)
  (hN:ds.length<=fn.ntmps) (h:∀ X s,cR P (fun _=>True) X G fn.ntmps s c (yB T rs y) ⟨args (ds.map .d),ft⟩):ao P G g ds y:=by
 refine⟨fm.of hf hb hn,fun X w μ vs hs ck aK hv=>?_⟩
 refine (callsIn_wide (n:=0)).1 (callsIn_of_wp_marks hf hb trivial (wpIn_mono (h X w.heap.size [] w μ _ (Nat.le_refl _) ⟨List.nodup_nil,by simp,by simp⟩
  (In.turn (X:=X) (N:=⟨fn.ntmps,[],none⟩) (a:={ tmps:=vs ++ Array.replicate (fn.ntmps - vs.size) undef,defers:=[] }) ⟨hs,⟨rfl,by simp;simp at aK;omega,fun i x hx=>?_⟩,ck⟩ (fun b hb=>.inl (hb.elim id (by simp))) (fun _ _ _=>rfl) (Nat.le_refl _) rfl rfl rfl)) fun e a' w' ⟨dh,ak,af,q,hm,i,ev⟩=>?_))
 .simp only[args]at hx;have hi:i < (ds.map AV.d).length:=(List.getElem?_eq_some_iff.1 hx).1
  have lL:vs[i]? = some vs[i]:=by rw[Array.getElem?_eq_getElem]
  exact⟨vs[i],by rw[Array.getElem?_append_left (by omega),lL],hv i _ x lL hx⟩
 .have fin:qR T rs y af->LeavesInM (wd none) 0 P fn a'.tmps (fun e w'=>∃ v x H' ak,e = .returned v/\(x = .d y/\H'=ft)/\RV w' X ak v x/\cw w' X ak H'/\Ev (fun _=>True) w μ w' ak) a'.defers .returning w':=fun he=>by
   rw[i.env.defers];refine Ra dh w' hm.nodup hm.rJ fun w2 h1 h2 h3 h4 h5=>?_;have hi:=i.shut h1 h5;have aB:=ev.shut hm (Nat.le_refl _) h1 h2 h3 h4 h5;unfold qR at he;split at he
   .rename_i c xs hx;obtain⟨hc,he⟩:=he;split at he
    .rename_i y' hy;obtain⟨v,hv,hr⟩:=Ct (P:=P) hg hi hrs hx hc;have bq:=(yw hi.aL 6 hy hr).le he;refine⟨v,hv,v,.d y,ft,fun _=>none,rfl,⟨rfl,rfl⟩,.d (bq.sub fun b=>jn.1),cw.none hi.aL.fits,aB.size,aB.os,aB.tape,aB.output,fun b hb hr=>⟨(aB.same b hb hr).1,fun ⟨_,_,h,_⟩=>by cases h⟩,fun r m _ hn=>absurd trivial hn⟩
    .exact he.elim
   .exact he.elim
  cases e with
  | normal=>exact fin q
  | ret=>exact fin q
  | _=>exact q.elim
structure Grown (B:Nat->Prop) (w w':World):Prop where
 size:w.heap.size<=w'.heap.size
 os:w'.os=w.os
 tape:w'.tape=w.tape
 output:w'.output=w.output
 same:∀ b,b < w.heap.size->¬ B b->w'.heap[b]? = w.heap[b]?
structure Kept (B:Nat->Prop) (w w':World):Prop where
 size:w.heap.size<=w'.heap.size
 same:∀ b,B b->w'.heap[b]? = w.heap[b]?
def GB (G:Yt) (b:Nat):Prop:=∃ x,G b=some x/\((∃ l,x = .ip l)\/∃ cs,x = .jQ cs)
theorem acO {G:Yt} {w:World} {X:Nat->Prop} (ck:∀ g x,G g=some x->RD w X (.pointer (some ⟨g,0,none⟩)) x) {b:Nat} (h:GB G b):¬ X b/\b < w.heap.size:=by
 obtain⟨x,hx,h | h⟩:=h
 .obtain⟨l,rfl⟩:=h;have h1:=ck _ _ hx;generalize hy:D.ip l=y at h1;generalize hv:Value.pointer (some ⟨b,0,none⟩)=v at h1;cases h1<;>cases hy;rename_i hX hb _ _;injection hv with hv;injection hv with hv;injection hv with hv;subst hv;exact⟨hX,hb⟩
 .obtain⟨cs,rfl⟩:=h;have h1:=ck _ _ hx;generalize hy:D.jQ cs=y at h1;generalize hv:Value.pointer (some ⟨b,0,none⟩)=v at h1;cases h1<;>cases hy;rename_i hX hb;injection hv with hv;injection hv with hv;injection hv with hv;subst hv;exact⟨hX,(Array.getElem?_eq_some_iff.1 hb).1⟩
def Dk (P:Program) (gf:FuncId) (lb:Array Value) (B C:Nat->Prop) (xs:List Value) (w0:World):Prop:=
 ∀ (l:Nat) (J:Nat->World->Prop) (Jx:World->Prop),(∀ k W W',J k W->Grown B W W'->J k W')->(∀ W W',Jx W->Grown B W W'->Jx W')->
  (∀ k (hk:k < xs.length) W,J k W->YieldAt (wd none) 0 P l #[xs[k]] W fun e W'=>(e = .returned (.bool true)/\J (k+1) W'/\Kept C W W')\/(e = .returned (.bool false)/\Jx W'))->
  ∀ w1,Kept C w0 w1->J 0 w1->Calls P gf (#[.func (.yield l) #[] #[]] ++ lb) w1 fun e W'=>(∃ v,e = .returned v)/\(J xs.length W'\/Jx W')
def jI (it:List Nat) (q:Nat):Bool:=!it.contains q
def qe (it:List Nat) (q off n:Nat):AV:=if it.contains q then .dead else .own q off n
def oT (it:List Nat) (q e j:Nat):AV:=if it.contains q then .dead else .ref q e j
theorem In.rest {e0:Env} {H0:Heap} (it:List Nat) (hi:In w X G μ N a ⟨e0,H0⟩):In w (XX X (br it.contains μ)) G (br (jI it) μ) N a ⟨fun i=>(e0 i).map (AV.tr (qe it) (oT it)),cy (jI it) (qe it) (oT it) H0⟩:=by
 have hXX:∀ b,XX (XX X (br it.contains μ)) (br (jI it) μ) b->XX X μ b:=fun b hb=>hb.elim (fun hb=>hb.elim .inl fun h=>.inr (mo h)) fun h=>.inr (mo h);have hD:∀ u d,RD w (XX X μ) u d->RD w (XX (XX X (br it.contains μ)) (br (jI it) μ)) u d:=fun u d h=>h.sub hXX
 have hm:∀ q m,it.contains q=false->μ q=some m->br (jI it) μ q=some m:=fun q m hk h=>by simp only[br,jI,hk,Bool.not_false,if_true];exact h
 have hV:∀ u x,RV w X μ u x->RV w (XX X (br it.contains μ)) (br (jI it) μ) u (x.tr (qe it) (oT it)):=fun u x=>RV.qv hD (fun u r off n h=>by
   unfold qe;split
   .exact .dead u
   .rename_i hk;obtain⟨m,h1,h2⟩:=h.gV
    exact .own (hm r m (by simpa using hk) h1) h2) (fun u r e j h=>by
   unfold oT;split
   .exact .dead u
   .rename_i hk;obtain⟨m,b,h1,h2,rfl⟩:=h.gC
    exact .ref (hm r m (by simpa using hk) h1) h2)
 refine⟨⟨fun r row hr=>?_,fun r m hr=>?_,fun q q' m1 m2 b h1 h2 Y8 Y4=>hi.aL.inj q q' m1 m2 b (fC h1).2 (fC h2).2 Y8 Y4,fun q m b hq hb hX=>?_,fun b hb=>hb.elim (hi.aL.fits b) fun h=>hi.aL.ZZ (mo h)⟩,⟨hi.env.defers,hi.env.size,fun i x hx=>?_⟩,fun g x hx=>hD _ _ (hi.eZ g x hx)⟩
 .dsimp only[cy]at hr;split at hr
  .rename_i hk;obtain⟨jj,h0,rfl⟩:=Option.map_eq_some_iff.1 hr;obtain⟨m,h1,ok⟩:=hi.aL.rows r jj h0;exact⟨m,hm r m (by simpa[jI]using hk) h1,ok.qv (fun _ _=>rfl) hD hV⟩
  .cases hr
 .obtain⟨hk,h1⟩:=fC hr;obtain⟨row,h0⟩:=hi.aL.gl r m h1;exact⟨row.tr (qe it) (oT it),by dsimp only[cy];rw[if_pos hk];dsimp only at h0;rw[h0];rfl⟩
 .obtain⟨hk,h1⟩:=fC hq
  rcases hX with h | ⟨q',m',fP,aH⟩
  .exact hi.aL.frame q m b h1 hb h
  .obtain⟨fq,zx⟩:=fC fP;obtain rfl:=hi.aL.inj q q' m m' b h1 zx hb aH;simp only[jI,fq,Bool.not_true,Bool.false_eq_true]at hk
 .obtain⟨y,hy,rfl⟩:=Option.map_eq_some_iff.1 hx;obtain⟨u,hu,hr⟩:=hi.env.slot i y hy;exact⟨u,hu,hV u y hr⟩
def uE (fx:List Nat):AV->Prop
 | .d _=>True
 | .ref r _ _=>fx.contains r=true
 | _=>False
def UW (P:Program) (X:Nat->Prop) (G:Yt) (N:Fr) (fx:List Nat) (Q:Exit->St->Prop) (e1:Env) (next:Heap) (nx:Prop):Exit->St->Prop
 | .normal,σ=>nx/\aD (eT fx) X G N σ ⟨fun _=>none,next⟩
 | .ret,σ=>∃ H,aD (eT fx) X G N σ ⟨fun _=>none,H⟩/\Q .ret ⟨e1,H⟩
 | .exit id,σ=>∃ H,aD (eT fx) X G N σ ⟨fun _=>none,H⟩/\Q (.exit id) ⟨e1,H⟩
 | _,_=>False
theorem RV.uE {X X':Nat->Prop} {l:Nat} {μ ak:Mu} {fx:List Nat} {u:Value} {x:AV} (hs:uE fx x) (ev:lg l (eT fx) w μ w' ak) (hl:X l) (hX:∀ b,X' b->X b) (hr:RV w X μ u x):RV w' X' ak u x:=by
 cases x with
 | d x=>exact .d (hr.data.mono ev.size fun b hb aH=>by
   have h:=ev.same b hb (fun e=>aH (.inl (e ▸ hl))) fun e=>aH (.inr e)
   exact⟨h.1,fun e=>e.elim (fun e=>aH (.inl (hX b e))) h.2⟩)
 | ref r e j=>
  obtain⟨m,b,hm,hb,rfl⟩:=hr.gC;exact .ref (ev.kept r m hm (by unfold eT;unfold Av.uE at hs;rw[hs];simp)) hb
 | _=>exact hs.elim
theorem JR {n s:Nat} {g:Operand} {p:Tmp} {assign body:Code} {Q:Exit->St->Prop} {e0:Env} {H0:Heap} {gf:FuncId} {caps:List AV} (xs:List Value) (it fx:List Nat) (e1:Env) (inv:Nat->Heap) (ok:Nat->Prop) (Pp:ok 0)
  (hg:aT G e0 g=some (.fn (.func gf) caps)) (hF:fm P gf) (hp:p < n)
  (hIt:∀ (w:World) (X:Nat->Prop) (μ:Mu) (lb:Array Value),cw w X μ (cy it.contains (cM it) (cL it) H0)->(∀ g x,G g=some x->RD w (XX X μ) (.pointer (some ⟨g,0,none⟩)) x)->lb.size=caps.length->(∀ (i:Nat) (u:Value) (x:AV),lb[i]? = some u->caps[i]? = some x->RV w X μ u (x.tr (cM it) (cL it)))->Dk P gf lb (eU μ) (fun b=>eU μ b\/GB G b) xs w)
  (he1:∀ i x,e1 i=some x->uE fx x/\∃ y,e0 i=some y/\y.tr (qe it) (oT it)=x) (hH:cy (jI it) (qe it) (oT it) H0=inv 0) (Nx:∀ q,eT fx q->Mv q) (hfx:∀ q,fx.contains q=true->it.contains q=false)
  (PM:∀ X' l k (hk:k < xs.length),ok k->AW P (eT fx) X' G ⟨n,[],some l⟩ assign (YC (AW P (eT fx) X' G ⟨n,[],some l⟩ body (UW P X' G ⟨n,[],some l⟩ fx Q e1 (inv (k+1)) (ok (k+1)))) (fun _ _=>False)) ⟨fb e1 p (.d (.v xs[k])),inv k⟩)
  (Ow:ok xs.length->Q .normal ⟨e1,inv xs.length⟩):cR P Mv X G n s (.rangeFunc g #[p] assign body) Q ⟨e0,H0⟩:=by
 intro ds w μ a rp hm hi
 obtain⟨lb,nh,rf,hlr⟩:∃ lb:Array Value,a.eval g = .func (.func gf) #[] lb/\lb.size=caps.length/\∀ (i:Nat) (u:Value) (x:AV),lb[i]? = some u->caps[i]? = some x->RV w (XD X ds) μ u x:=by
  have h:=hi.eval hg;generalize a.eval g=v at h ⊢
  cases h with
  | fn hn hr=>exact⟨_,rfl,hn,hr⟩
 have bx:=hi.rest it;obtain⟨A2,hpv⟩:=hi.aL.part it;have hit:=hIt w _ _ lb A2 (fun g x hx=>(hi.eZ g x hx).sub fun b=>yo.1) rf fun i u x hu hx=>hpv (hlr i u x hu hx);generalize hB:br it.contains μ=nR at bx A2 hit;have E1:∀ b,eU nR b->eU μ b:=fun b h=>mo (hB ▸ h);have vN:∀ b,eU nR b->b < w.heap.size:=fun b h=>hi.aL.ZZ (E1 b h);rw[hH]at bx
 have cE:In w (XX (XD X ds) nR) G (br (jI it) μ) ⟨n,ds.map mark,none⟩ a ⟨e1,inv 0⟩:=⟨bx.aL,⟨bx.env.defers,bx.env.size,fun i x hx=>by
  obtain⟨_,y,hy,rfl⟩:=he1 i x hx
  exact bx.env.slot i _ (by dsimp only;rw[hy];rfl)⟩,bx.eZ⟩
 clear bx hpv A2;refine wpIn_rangeFunc fun fn _=>?_;generalize hD:w.heap.size=d at *;obtain⟨rec,p0⟩:∃ rec:LoopState->Option Code->Loop,rec=fun st pe=>{ state:=st,pending:=pe,fn,tmps:=a.tmps,params:=#[p],assign,body,defers:=d }:=⟨_,rfl⟩;obtain⟨W1,pI⟩:∃ W1,(w.alloc (.deferred (some []))).alloc (.loop (rec .ready none))=W1:=⟨_,rfl⟩
 have rq:W1.heap.size=d+2:=by rw[<- pI];simp;omega
 have ng:bQ w W1:=by
  rw[<- pI];have h1:=bQ.alloc w (.deferred (some []));have h2:=bQ.alloc (w.alloc (.deferred (some []))) (.loop (rec .ready none));exact⟨Nat.le_trans h1.size h2.size,h2.os.trans h1.os,h2.tape.trans h1.tape,h2.output.trans h1.output,fun b hb=>(h2.same b (Nat.lt_of_lt_of_le hb h1.size)).trans (h1.same b hb)⟩
 have Nt:W1.heap[d+1]? = some (.loop (rec .ready none)):=by
  rw[<- pI];have:=World.alloc_heap_new (w.alloc (.deferred (some []))) (.loop (rec .ready none));rwa [World.size_alloc,hD]at this
 have Yw:W1.heap[d]? = some (.deferred (some [])):=by
  rw[<- pI,(bQ.alloc (w.alloc (.deferred (some []))) (.loop (rec .ready none))).same d (by simp;omega),<- hD];exact World.alloc_heap_new w _
 let X':Nat->Prop:=fun b=>XX (XD X ds) nR b\/b=d\/b=d+1
 have Xi:∀ b,XX (XD X ds) nR b->b < d:=fun b hb=>by have:=cE.aL.fits b hb;omega
 have dD:In W1 X' G (br (jI it) μ) ⟨n,ds.map mark,none⟩ a ⟨e1,inv 0⟩:=cE.turn (fun b hb=>hb.elim .inl fun hb=>.inr (by omega)) (fun b hb _=>ng.same b hb) ng.size cE.env.defers rfl rfl
 have Al:Ev (eT fx) w μ W1 (br (jI it) μ):=⟨ng.size,ng.os,ng.tape,ng.output,fun b hb hr=>⟨ng.same b hb,fun h=>hr (mo h)⟩,fun q m hq hn=>by
  have OJ:fx.contains q=true:=by
   cases h:fx.contains q with
   | true=>rfl
   | false=>exact absurd h hn
  simp only[br,jI,hfx q OJ,Bool.not_false,if_true];exact hq⟩
 let At (st:LoopState) (pe:Option Code) (H:Heap) (W:World):Prop:=(∃ ak,In W X' G ak ⟨n,ds.map mark,none⟩ a ⟨e1,H⟩/\Ev (eT fx) w μ W ak)/\W.heap[d+1]? = some (.loop (rec st pe))/\W.heap[d]? = some (.deferred (some []))
 have EU:∀ st pe H W W',At st pe H W->Grown (eU nR) W W'->At st pe H W':=by
  rintro st pe H W W' ⟨⟨ak,ax,aB⟩,hl,hk⟩ gM;have Yv:d+1 < W.heap.size:=(Array.getElem?_eq_some_iff.1 hl).1
  have F5:∀ b,d<=b->¬ eU nR b:=fun b hb h=>by have:=vN b h;omega
  refine⟨⟨ak,ax.turn (fun b hb=>.inl hb) (fun b hb hx=>gM.same b hb fun h=>hx (.inl (.inr h))) gM.size ax.env.defers rfl rfl,⟨Nat.le_trans aB.size gM.size,gM.os.trans aB.os,gM.tape.trans aB.tape,gM.output.trans aB.output,fun b hb hr=>?_,aB.kept⟩⟩,(gM.same _ Yv (F5 _ (by omega))).trans hl,(gM.same _ (by omega) (F5 _ (Nat.le_refl _))).trans hk⟩;have h:=aB.same b hb hr;exact⟨(gM.same b (Nat.lt_of_lt_of_le hb aB.size) fun hh=>hr (E1 b hh)).trans h.1,h.2⟩
 let Jx:World->Prop:=fun W=>∃ (c:Code) (H:Heap),((c=Code.ret/\Q .ret ⟨e1,H⟩)\/∃ id,c=Code.exit id/\Q (.exit id) ⟨e1,H⟩)/\At .done (some c) H W
 have adT:∀ k (hk:k < xs.length) W,ok k/\At .ready none (inv k) W->YieldAt (wd none) 0 P (d+1) #[xs[k]] W fun e W'=>
   (e = .returned (.bool true)/\(ok (k+1)/\At .ready none (inv (k+1)) W')/\Kept (fun b=>eU nR b\/GB G b) W W')\/(e = .returned (.bool false)/\Jx W'):=by
  rintro k hk W ⟨Pr,⟨ak,ax,aB⟩,hl,hkD⟩;have Yv:d+1 < W.heap.size:=(Array.getElem?_eq_some_iff.1 hl).1;have hy:=run_yield (P:=P) (args:=#[xs[k]]) hl (by rw[p0];rfl);rw[p0]at hy;refine⟨fn,_,assign,body,hy,roundIn_of_wpIn (F:=wd none) trivial ?_⟩;clear hy
  have OI:(((#[p]:Array Tmp).zip #[xs[k]]).foldl (fun tmps (t,a)=>tmps.setIfInBounds t a) a.tmps)=a.tmps.setIfInBounds p xs[k]:=by simp
  show assign.wpIn (wd (some (d+1))) 0 P _ { tmps:=(((#[p]:Array Tmp).zip #[xs[k]]).foldl (fun tmps (t,a)=>tmps.setIfInBounds t a) a.tmps),defers:=[] } W;rw[OI];have aK:=ax.env.size
  have OU:In W X' G ak ⟨n,[],some (d+1)⟩ { tmps:=a.tmps.setIfInBounds p xs[k],defers:=[] } ⟨fb e1 p (.d (.v xs[k])),inv k⟩:=⟨ax.aL,⟨rfl,by simpa using aK,fun i x hx=>by
   simp only[fb]at hx;split at hx
   .rename_i e;obtain rfl:=Option.some.inj hx
    have:p < a.tmps.size:=by rw[aK];exact hp
    exact⟨xs[k],by rw[e];simp[this],.d (.v _)⟩
   .rename_i e;obtain⟨u,hu,hr⟩:=ax.env.slot i x hx
    exact⟨u,by simp[Array.getElem?_setIfInBounds,Ne.symm e,hu],hr⟩⟩,ax.eZ⟩
  refine wpIn_mono (PM X' (d+1) k hk Pr W ak _ OU) fun e a1 w1 ⟨μ1,ay,q1,GH,ev1⟩=>?_
  cases e with
  | normal=>
   have iY:X' (d+1):=.inr (.inr rfl);have Fv:X' d:=.inr (.inl rfl);have fZ:∀ {W:World} {μ:Mu} {H:Heap} {b:Nat},cw W X' μ H->X' b->¬ eU μ b:=fun hs hx ⟨r,m,h1,h2⟩=>hs.frame r m _ h1 h2 hx;have gO:=(ev1.same _ Yv (fZ ax.aL iY)).1.trans hl;have Y2:=(ev1.same d (by omega) (fZ ax.aL Fv)).1.trans hkD;have AG:d+1 < w1.heap.size:=(Array.getElem?_eq_some_iff.1 gO).1;refine⟨_,run_beginRound gO (by rw[p0]),?_⟩;have Bu:In (w1.putObj (d+1) (.loop { rec .ready none with state:=.busy })) X' G μ1 ⟨n,[],some (d+1)⟩ a1 ay:=GH.turn (fun b hb=>.inl hb) (fun b hb hx=>World.putObj_heap_other fun e=>hx (e ▸ iY)) (by simp) GH.env.defers rfl rfl;have Mg:lg (d+1) (eT fx) W ak (w1.putObj (d+1) (.loop { rec .ready none with state:=.busy })) μ1:=(ev1.but _).trans (.put _ _ _ _ _);refine wpIn_mono (q1 _ μ1 a1 Bu) fun e a3 w3 ⟨μ3,dy,q3,Ql,sy⟩=>?_;have FZ:w3.heap[d+1]? = some (.loop { rec .ready none with state:=.busy }):=(sy.same (d+1) (by simpa using AG) (fZ Bu.aL iY)).1.trans (World.putObj_heap_same AG);have wv:w3.heap[d]? = some (.deferred (some [])):=(sy.same d (by simp;omega) (fZ Bu.aL Fv)).1.trans ((World.putObj_heap_other (by omega)).trans Y2);have Mh:=Mg.trans (sy.but (d+1));have fy:d+1 < w3.heap.size:=(Array.getElem?_eq_some_iff.1 FZ).1
   have fin:∀ (jump:Option Code) (H:Heap),aD (eT fx) X' G ⟨n,[],some (d+1)⟩ dy ⟨fun _=>none,H⟩->∃ w4,(Instr.endRound (d+1) jump).run P w3 = .ok (.bool jump.isNone) w4/\At (if jump.isNone then .ready else .done) jump H w4/\Kept (fun b=>eU nR b\/GB G b) W w4:=fun jump H himp=>by
    obtain⟨JO,GI,Mf⟩:=himp w3 μ3 a3 Ql;have sA:=(Mh.trans (Mf.but (d+1))).trans (.put (eT fx) w3 JO (d+1) (.loop (rec (if jump.isNone then .ready else .done) jump)));refine⟨w3.putObj (d+1) (.loop (rec (if jump.isNone then .ready else .done) jump)),?_,⟨⟨JO,?_,?_⟩,World.putObj_heap_same fy,(World.putObj_heap_other (by omega)).trans wv⟩,sA.size,fun b hb=>?_⟩
    .have:=run_endRound (P:=P) jump FZ;rw[p0]at this ⊢;exact this
    .have Gq:=(GI.turn (N':=⟨n,[],some (d+1)⟩) (X':=X') (w':=w3.putObj (d+1) (.loop (rec (if jump.isNone then .ready else .done) jump))) (fun b hb=>.inl hb) (fun b hb hx=>World.putObj_heap_other fun e=>hx (e ▸ iY)) (by simp) GI.env.defers rfl rfl)
     exact⟨Gq.aL,⟨ax.env.defers,ax.env.size,fun i x hx=>by
      obtain⟨u,hu,hr⟩:=ax.env.slot i x hx
      exact⟨u,hu,hr.uE (he1 i x hx).1 sA iY fun b hb=>hb⟩⟩,Gq.eZ⟩
    .exact ((aB.but (d+1)).trans sA).ev (by omega)
    .rcases hb with hb | hb
     .exact (sA.same b (by have:=vN b hb;omega) (fun e=>by have:=vN b hb;omega) (fZ ax.aL (.inl (.inr hb)))).1
     .obtain⟨h1,h2⟩:=acO ax.eZ hb;exact (sA.same b h2 (fun e=>h1 (.inl (e ▸ iY))) fun hr=>h1 (.inr hr)).1
   cases e with
   | normal=>
    obtain⟨hnx,q3⟩:=q3;obtain⟨w4,h1,h2,h3⟩:=fin none _ q3;exact⟨_,w4,h1,.inl ⟨rfl,⟨hnx,h2⟩,h3⟩⟩
   | ret=>
    obtain⟨H,himp,hq⟩:=q3;obtain⟨w4,h1,h2,_⟩:=fin (some .ret) H himp;exact⟨_,w4,h1,.inr ⟨rfl,.ret,H,.inl ⟨rfl,hq⟩,h2⟩⟩
   | exit id=>
    obtain⟨H,himp,hq⟩:=q3;obtain⟨w4,h1,h2,_⟩:=fin (some (.exit id)) H himp;exact⟨_,w4,h1,.inr ⟨rfl,.exit id,H,.inr ⟨id,rfl,hq⟩,h2⟩⟩
   | _=>exact q3.elim
  | _=>exact q1.elim
 refine⟨d+1,[mark d],W1,{ target:=.fn (.func gf) lb,args:=#[.func (.yield (d+1)) #[] #[]] },W1,gf,#[.func (.yield (d+1)) #[] #[]] ++ lb,W1,?_,?_,fun _ _=>trivial,?_,fun e=>(by cases e),JF (Calls.mono
  (hit (d+1) (fun k W=>ok k/\At .ready none (inv k) W) Jx
   (fun k W W' h gM=>⟨h.1,EU _ _ _ W W' h.2 gM⟩) (fun W W' ⟨c,H,hq,h⟩ gM=>⟨c,H,hq,EU _ _ _ W W' h gM⟩) adT W1 ⟨ng.size,fun b hb=>ng.same b (hb.elim (fun h=>by have:=vN b h;omega) fun h=>by have:=(acO hi.eZ h).2;omega)⟩ ⟨Pp,⟨_,dD,Al⟩,Nt,Yw⟩) ?_)⟩
 .rw[<- pI,p0];have:=run_enterLoop_outer (P:=P) (w:=w) fn a.tmps #[p] assign body;rw[hD]at this;exact this
 .simp only[resolve,nh];simp[go_sem]
 .have:=hF;simp[invoke,go_sem,hF _ W1]
 .rintro e W2 ⟨⟨v,rfl⟩,hJ⟩
  have out:∀ st pe H,st≠.busy->At st pe H W2->∃ w4,(Instr.endLoop (d+1)).run P W2 = .ok pe w4/\∀ q:Exit,Q q ⟨e1,H⟩->Dh Mv X G n s w μ Q q { a with defers:=[mark d] ++ a.defers } w4:=by
   rintro st pe H bw ⟨⟨ak,ax,aB⟩,hl,hk⟩;have Yv:d+1 < W2.heap.size:=(Array.getElem?_eq_some_iff.1 hl).1;refine⟨W2.putObj (d+1) (.loop { rec st pe with state:=.exhausted }),?_,fun q hq=>⟨d :: ds,ak,⟨e1,H⟩,hq,⟨?_,?_,?_⟩,?_,?_⟩⟩
   .have:=run_endLoop (P:=P) hl (by rw[p0];exact bw);rw[p0]at this ⊢;exact this
   .exact List.nodup_cons.2 ⟨fun h=>by have:=(Array.getElem?_eq_some_iff.1 (hm.rJ d h)).1;omega,hm.nodup⟩
   .intro x hx
    rcases List.mem_cons.1 hx with rfl | hx
    .omega
    .exact hm.new x hx
   .intro x hx
    rcases List.mem_cons.1 hx with rfl | hx
    .exact (World.putObj_heap_other (by omega)).trans hk
    .have h0:=(Array.getElem?_eq_some_iff.1 (hm.rJ x hx)).1;have h1:=aB.same x h0 fun ⟨r,m,h1,h2⟩=>hi.aL.frame r m x h1 h2 (.inr hx);exact (World.putObj_heap_other (by omega)).trans (h1.1.trans (hm.rJ x hx))
   .refine ax.turn (fun b hb=>.inl ?_) (fun b hb hx=>World.putObj_heap_other fun e=>hx (.inr (.inr e))) (by simp) ?_ rfl rfl
    .rcases hb with hb | hb
     .exact .inl (.inl (.inl hb))
     .rcases List.mem_cons.1 hb with rfl | hb
      .exact .inr (.inl rfl)
      .exact .inl (.inl (.inr hb))
    .show [mark d] ++ a.defers=(d :: ds).map mark;rw[ax.env.defers];rfl
   .refine (((aB.but (d+1)).trans (.put _ _ _ _ _)).ev (by omega)).weaken fun q m _ hq=>Nx q hq
  rcases hJ with⟨Pq,hJ⟩ | ⟨c,H,hq,hJ⟩
  .obtain⟨w4,h1,h2⟩:=out _ _ _ (by simp) hJ;exact⟨none,w4,h1,h2 .normal (Ow Pq)⟩
  .obtain⟨w4,h1,h2⟩:=out _ _ _ (by simp) hJ;refine⟨some c,w4,h1,?_⟩
   rcases hq with⟨rfl,hq⟩ | ⟨id,rfl,hq⟩
   .exact wpIn_ret (h2 .ret hq)
   .exact wpIn_exit (h2 (.exit id) hq)
end
