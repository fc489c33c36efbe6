/-
  Texts that belong together,in one file: Av33.
-/
import Derived.Test.YtdigkhaofjmgkaaGreatDoorMk10
import Derived.RangeFuncSeq
set_option linter.unusedSectionVars false
set_option linter.unusedSimpArgs false
set_option linter.unusedVariables false
namespace Go.Av
def mark (d:Nat):Deferred:={ target:=.collected d,args:=#[] }
structure Marks (s:Nat) (w:World) (ds:List Nat):Prop where
 nodup:ds.Nodup
 new:∀ d∈ds,s<=d
 tO:∀ d∈ds,w.heap[d]? = some (.deferred (some []))
def XD (X:Nat->Prop) (ds:List Nat) (b:Nat):Prop:=X b\/b∈ds
structure me (l:Nat) (Mv:Nat->Prop) (w:World) (μ:Mu) (w':World) (au:Mu):Prop where
 size:w.heap.size<=w'.heap.size
 os:w'.os=w.os
 tape:w'.tape=w.tape
 output:w'.output=w.output
 same:∀ b,b < w.heap.size->b≠l->¬ fO μ b->w'.heap[b]? = w.heap[b]?/\¬ fO au b
 kept:∀ r m,μ r=some m->¬ Mv r->au r=some m
theorem Ev.but {Mv:Nat->Prop} {w w':World} {μ au:Mu} (h:Ev Mv w μ w' au) (l:Nat):me l Mv w μ w' au:=⟨h.size,h.os,h.tape,h.output,fun b hb _ hr=>h.same b hb hr,h.kept⟩
theorem me.trans {l:Nat} {Mv:Nat->Prop} {w w1 w2:World} {μ im gP:Mu} (h:me l Mv w μ w1 im) (h':me l Mv w1 im w2 gP):me l Mv w μ w2 gP:=
 ⟨Nat.le_trans h.size h'.size,h'.os.trans h.os,h'.tape.trans h.tape,h'.output.trans h.output,fun b hb hl hr=>
  have h1:=h.same b hb hl hr;have h2:=h'.same b (Nat.lt_of_lt_of_le hb h.size) hl h1.2
  ⟨h2.1.trans h1.1,h2.2⟩,fun r m hm hn=>h'.kept r m (h.kept r m hm hn) hn⟩
theorem me.put (Mv:Nat->Prop) (w:World) (μ:Mu) (l:Nat) (o:Obj):me l Mv w μ (w.putObj l o) μ:=
 ⟨by simp,rfl,rfl,rfl,fun b _ hl hr=>⟨World.putObj_heap_other hl,hr⟩,fun _ _ h _=>h⟩
theorem me.ev {l:Nat} {Mv:Nat->Prop} {w w':World} {μ au:Mu} (h:me l Mv w μ w' au) (hl:w.heap.size<=l):Ev Mv w μ w' au:=
 ⟨h.size,h.os,h.tape,h.output,fun b hb hr=>h.same b hb (by omega) hr,h.kept⟩
section
variable {P:Program} {T:Ty} {Mv X:Nat->Prop} {G:ao} {N:Fr} {w w':World} {μ:Mu} {a:Act} {σ:St}
theorem In.turn {N':Fr} {X':Nat->Prop} {a':Act} (hi:In w X G μ N a σ) (hX:∀ b,X' b->X b\/(w.heap.size<=b/\b < w'.heap.size)) (nq:∀ b,b < w.heap.size->¬ X b->w'.heap[b]? = w.heap[b]?) (aI:w.heap.size<=w'.heap.size)
  (hd:a'.defers=N'.ds) (hn:N'.n=N.n) (ht:a'.tmps=a.tmps):In w' X' G μ N' a' σ:=by
 have hD:∀ u d,RD w (XX X μ) u d->RD w' (XX X' μ) u d:=fun u d h=>h.mono aI fun b hb aO=>
  ⟨nq b hb fun e=>aO (.inl e),fun e=>aO (e.elim (fun e=>(hX b e).elim .inl fun ⟨h,_⟩=>absurd hb (Nat.not_lt.2 h)) .inr)⟩
 refine ⟨⟨fun r row hr=>?_,hi.aS.dom,hi.aS.inj,fun r m b hr hb hx=>?_,fun b hb=>?_⟩,⟨hd,by rw [ht,hn];exact hi.env.size,fun i x hx=>?_⟩,fun g x hx=>hD _ _ (hi.fV g x hx)⟩
 .obtain ⟨m,hm,ok⟩:=hi.aS.rows r row hr;exact ⟨m,hm,ok.lift (fun b hb=>nq b (ok.iS hb) (hi.aS.frame r m b hm hb)) hD fun _ _ h=>h⟩
 .have ax:=hi.aS.iS ⟨r,m,hr,hb⟩;exact (hX b hx).elim (hi.aS.frame r m b hr hb) fun ⟨h,_⟩=>absurd ax (Nat.not_lt.2 h)
 .exact (hX b hb).elim (fun h=>Nat.lt_of_lt_of_le (hi.aS.fits b h) aI) (·.2)
 .obtain ⟨u,hu,hr⟩:=hi.env.slot i x hx;exact ⟨u,by rw [ht];exact hu,hr.lift hD fun _ _ h=>h⟩
theorem Marks.ev {s:Nat} {ds:List Nat} {H:Heap} {au:Mu} (hm:Marks s w ds) (hs:cK w (XD X ds) μ H) (ev:Ev Mv w μ w' au):Marks s w' ds:=
 ⟨hm.nodup,hm.new,fun d hd=>(ev.same d (Array.getElem?_eq_some_iff.1 (hm.tO d hd)).1 fun ⟨r,m,hr,hb⟩=>hs.frame r m d hr hb (.inr hd)).1.trans (hm.tO d hd)⟩
def Fj (Mv X:Nat->Prop) (G:ao) (n s:Nat) (w:World) (μ:Mu) (Q:Exit->St->Prop) (e:Exit) (a':Act) (w':World):Prop:=
 ∃ ds au ar,Q e ar/\Marks s w' ds/\In w' (XD X ds) G au ⟨n,ds.map mark,none⟩ a' ar/\Ev Mv w μ w' au
def AW0 (P:Program) (Mv X:Nat->Prop) (G:ao) (n s:Nat) (c:Code) (Q:Exit->St->Prop) (σ:St):Prop:=
 ∀ ds w μ a,s<=w.heap.size->Marks s w ds->In w (XD X ds) G μ ⟨n,ds.map mark,none⟩ a σ->c.wpIn (wd none) 0 P (Fj Mv X G n s w μ Q) a w
theorem xk {n s:Nat} {c:Code} {Q:Exit->St->Prop} (h:∀ X' ds,AW P Mv X' G ⟨n,ds,none⟩ c Q σ):AW0 P Mv X G n s c Q σ:=fun ds w μ a hs hm hi=>
 wpIn_mono (h (XD X ds) _ w μ a hi) fun e a' w' ⟨au,ar,q,i,ev⟩=>⟨ds,au,ar,q,hm.ev hi.aS ev,i,ev⟩
theorem AW0.mono {n s:Nat} {c:Code} {Q Q':Exit->St->Prop} (h:AW0 P Mv X G n s c Q σ) (hq:∀ e σ,Q e σ->Q' e σ):AW0 P Mv X G n s c Q' σ:=fun ds w μ a hs hm hi=>
 wpIn_mono (h ds w μ a hs hm hi) fun _ _ _ ⟨ds',au,ar,q,r⟩=>⟨ds',au,ar,hq _ _ q,r⟩
theorem AW0.imp {n s:Nat} {c:Code} {Q:Exit->St->Prop} {τ:St} (hi:∀ X' ds,Z1 Mv X' G ⟨n,ds,none⟩ σ τ) (h:AW0 P Mv X G n s c Q τ):AW0 P Mv X G n s c Q σ:=fun ds w μ a hs hm aC=>by
 obtain ⟨im,h1,e1⟩:=hi (XD X ds) _ w μ a aC;exact wpIn_mono (h ds w im a hs hm h1) fun e a' w' ⟨ds',au,ar,q,m,i,ev⟩=>⟨ds',au,ar,q,m,i,e1.trans ev⟩
theorem xl {n s:Nat} {x y:Code} {Q:Exit->St->Prop} (h:AW0 P Mv X G n s x (aM (AW0 P Mv X G n s y Q) Q) σ):AW0 P Mv X G n s (.seq x y) Q σ:=fun ds w μ a hs hm hi=>
 wpIn_seq (wpIn_mono (h ds w μ a hs hm hi) fun e a' w' ⟨ds',au,ar,q,m,i,ev⟩=>by
  cases e with
  | normal=>exact wpIn_mono (q ds' w' au a' (Nat.le_trans hs ev.size) m i) fun e2 a2 w2 ⟨Ny,gP,eu,q2,m2,i2,qC⟩=>⟨Ny,gP,eu,q2,m2,i2,ev.trans qC⟩
  | _=>exact ⟨ds',au,ar,q,m,i,ev⟩)
theorem Lp {n s id:Nat} {c:Code} {Q:Exit->St->Prop} (h:AW0 P Mv X G n s c (aP id Q) σ):AW0 P Mv X G n s (.block id c) Q σ:=fun ds w μ a hs hm hi=>
 wpIn_block (wpIn_mono (h ds w μ a hs hm hi) fun e a' w' ⟨ds',au,ar,q,m,i,ev⟩=>by
  cases e with
  | exit yU=>
   simp only [aP] at q;simp only [Exit.inBlock];split
   .rename_i he;rw [if_pos he] at q;exact ⟨ds',au,ar,q,m,i,ev⟩
   .rename_i he;rw [if_neg he] at q;exact ⟨ds',au,ar,q,m,i,ev⟩
  | _=>exact ⟨ds',au,ar,q,m,i,ev⟩)
theorem Sk {fn:Func} {tmps:Array Value} {R:Ending->World->Prop}:∀ (ds:List Nat) (w:World),ds.Nodup->(∀ d∈ds,w.heap[d]? = some (.deferred (some [])))->
  (∀ w',w'.heap.size=w.heap.size->w'.os=w.os->w'.tape=w.tape->w'.output=w.output->(∀ b,b ∉ ds->w'.heap[b]? = w.heap[b]?)->∃ v,(results fn tmps).run P w' = .ok v w'/\R (.returned v) w')->
  LeavesInM (wd none) 0 P fn tmps R (ds.map mark) .returning w:=by
 intro ds
 induction ds with
 | nil=>
  intro w _ _ h;obtain ⟨v,hv,hR⟩:=h w rfl rfl rfl rfl fun _ _=>rfl;show LeavesIn (wd none) 0 P fn tmps R [] .returning w;exact ⟨v,hv,hR⟩
 | cons d ds ih=>
  intro w hn ho h;obtain ⟨hd,hn⟩:=List.nodup_cons.1 hn;refine ⟨by simp,.inl ⟨d,w.putObj d (.deferred none),rfl,run_takeDeferred (ho d (by simp)),ih _ hn (fun e he=>?_) fun w' h1 h2 h3 h4 h5=>?_⟩⟩
  .rw [World.putObj_heap_other (fun e':e=d=>hd (by rw [<- e'];exact he))];exact ho e (by simp [he])
  .refine h w' (by simpa using h1) h2 h3 h4 fun b hb=>?_;rw [h5 b (fun e=>hb (by simp [e])),World.putObj_heap_other (fun e=>hb (by simp [e]))]
theorem In.shut {n:Nat} {ds:List Nat} (hi:In w (XD X ds) G μ ⟨n,ds.map mark,none⟩ a σ) (h1:w'.heap.size=w.heap.size) (h5:∀ b,b ∉ ds->w'.heap[b]? = w.heap[b]?):In w' X G μ ⟨n,[],none⟩ { a with defers:=[] } σ:=
 hi.turn (fun b hb=>.inl (.inl hb)) (fun b _ hb=>h5 b fun e=>hb (.inr e)) (by omega) rfl rfl rfl
theorem Ev.shut {s:Nat} {w0:World} {fT:Mu} {ds:List Nat} (h:Ev Mv w0 fT w μ) (hm:Marks s w ds) (hs:w0.heap.size<=s) (h1:w'.heap.size=w.heap.size) (h2:w'.os=w.os) (h3:w'.tape=w.tape) (h4:w'.output=w.output) (h5:∀ b,b ∉ ds->w'.heap[b]? = w.heap[b]?):Ev Mv w0 fT w' μ:=
 ⟨by have:=h.size;omega,h2.trans h.os,h3.trans h.tape,h4.trans h.output,fun b hb hr=>by
  have h6:=h.same b hb hr
  exact ⟨(h5 b fun e=>by have:=hm.new b e;omega).trans h6.1,h6.2⟩,h.kept⟩
theorem aw.UN (hg:Good P T) {g:FuncId} {fn:Func} {c:Code} {rs:List ResultVar} {ds:List D} {y:D} (hf:P.funcs[g]? = some fn) (hb:fn.body=some c) (hn:(fn.name == "runtime.NumGoroutine")=false) (gd:fn.results=rs.toArray)
  (hN:ds.length<=fn.ntmps) (h:∀ X s,AW0 P (fun _=>True) X G fn.ntmps s c (AQ T rs y) ⟨args (ds.map .d),eA⟩):aw P G g ds y:=by
 refine ⟨eU.of hf hb hn,fun X w μ vs hs b8 aI hv=>?_⟩
 refine (callsIn_wide (n:=0)).1 (callsIn_of_wp_marks hf hb trivial (wpIn_mono (h X w.heap.size [] w μ _ (Nat.le_refl _) ⟨List.nodup_nil,by simp,by simp⟩
  (In.turn (X:=X) (N:=⟨fn.ntmps,[],none⟩) (a:={ tmps:=vs ++ Array.replicate (fn.ntmps - vs.size) undef,defers:=[] }) ⟨hs,⟨rfl,by simp;simp at aI;omega,fun i x hx=>?_⟩,b8⟩ (fun b hb=>.inl (hb.elim id (by simp))) (fun _ _ _=>rfl) (Nat.le_refl _) rfl rfl rfl)) fun e a' w' ⟨ds',au,ar,q,hm,i,ev⟩=>?_))
 .simp only [args] at hx;have hi:i < (ds.map AV.d).length:=(List.getElem?_eq_some_iff.1 hx).1
  have mJ:vs[i]? = some vs[i]:=by rw [Array.getElem?_eq_getElem]
  exact ⟨vs[i],by rw [Array.getElem?_append_left (by omega),mJ],hv i _ x mJ hx⟩
 .have fin:sA T rs y ar->LeavesInM (wd none) 0 P fn a'.tmps (fun e w'=>∃ v x H' au,e = .returned v/\(x = .d y/\H'=eA)/\RV w' X au v x/\cK w' X au H'/\Ev (fun _=>True) w μ w' au) a'.defers .returning w':=fun he=>by
   rw [i.env.defers];refine Sk ds' w' hm.nodup hm.tO fun w2 h1 h2 h3 h4 h5=>?_;have hi:=i.shut h1 h5;have aG:=ev.shut hm (Nat.le_refl _) h1 h2 h3 h4 h5;unfold sA at he;split at he
   .rename_i c xs hx;obtain ⟨hc,he⟩:=he;split at he
    .rename_i y' hy;obtain ⟨v,hv,hr⟩:=En (P:=P) hg hi gd hx hc;have bz:=(xu hi.aS 6 hy hr).le he;refine ⟨v,hv,v,.d y,eA,fun _=>none,rfl,⟨rfl,rfl⟩,.d (bz.sub fun b=>kD.1),cK.none hi.aS.fits,aG.size,aG.os,aG.tape,aG.output,fun b hb hr=>⟨(aG.same b hb hr).1,fun ⟨_,_,h,_⟩=>by cases h⟩,fun r m _ hn=>absurd trivial hn⟩
    .exact he.elim
   .exact he.elim
  cases e with
  | normal=>exact fin q
  | ret=>exact fin q
  | _=>exact q.elim
structure Grown (B:Nat->Prop) (w w':World):Prop where
 size:w.heap.size<=w'.heap.size
 os:w'.os=w.os
 tape:w'.tape=w.tape
 output:w'.output=w.output
 same:∀ b,b < w.heap.size->¬ B b->w'.heap[b]? = w.heap[b]?
structure Kept (B:Nat->Prop) (w w':World):Prop where
 size:w.heap.size<=w'.heap.size
 same:∀ b,B b->w'.heap[b]? = w.heap[b]?
def GB (G:ao) (b:Nat):Prop:=∃ x,G b=some x/\((∃ l,x = .ip l)\/∃ cs,x = .tab cs)
theorem aeO {G:ao} {w:World} {X:Nat->Prop} (b8:∀ g x,G g=some x->RD w X (.pointer (some ⟨g,0,none⟩)) x) {b:Nat} (h:GB G b):¬ X b/\b < w.heap.size:=by
 obtain ⟨x,hx,h | h⟩:=h
 .obtain ⟨l,rfl⟩:=h;have h1:=b8 _ _ hx;generalize hy:D.ip l=y at h1;generalize hv:Value.pointer (some ⟨b,0,none⟩)=v at h1;cases h1<;>cases hy;rename_i hX hb _ _;injection hv with hv;injection hv with hv;injection hv with hv;subst hv;exact ⟨hX,hb⟩
 .obtain ⟨cs,rfl⟩:=h;have h1:=b8 _ _ hx;generalize hy:D.tab cs=y at h1;generalize hv:Value.pointer (some ⟨b,0,none⟩)=v at h1;cases h1<;>cases hy;rename_i hX hb;injection hv with hv;injection hv with hv;injection hv with hv;subst hv;exact ⟨hX,(Array.getElem?_eq_some_iff.1 hb).1⟩
def Fl (P:Program) (gf:FuncId) (lb:Array Value) (B C:Nat->Prop) (xs:List Value) (w0:World):Prop:=
 ∀ (l:Nat) (J:Nat->World->Prop) (Jx:World->Prop),(∀ k W W',J k W->Grown B W W'->J k W')->(∀ W W',Jx W->Grown B W W'->Jx W')->
  (∀ k (hk:k < xs.length) W,J k W->YieldAt (wd none) 0 P l #[xs[k]] W fun e W'=>(e = .returned (.bool true)/\J (k+1) W'/\Kept C W W')\/(e = .returned (.bool false)/\Jx W'))->
  ∀ w1,Kept C w0 w1->J 0 w1->Calls P gf (#[.func (.yield l) #[] #[]] ++ lb) w1 fun e W'=>(∃ v,e = .returned v)/\(J xs.length W'\/Jx W')
def kT (it:List Nat) (q:Nat):Bool:=!it.contains q
def adH (it:List Nat) (q off n:Nat):AV:=if it.contains q then .dead else .own q off n
def pZ (it:List Nat) (q e j:Nat):AV:=if it.contains q then .dead else .ref q e j
theorem In.rest {e0:Env} {H0:Heap} (it:List Nat) (hi:In w X G μ N a ⟨e0,H0⟩):In w (XX X (bF it.contains μ)) G (bF (kT it) μ) N a ⟨fun i=>(e0 i).map (AV.tr (adH it) (pZ it)),trH (kT it) (adH it) (pZ it) H0⟩:=by
 have sR:∀ b,XX (XX X (bF it.contains μ)) (bF (kT it) μ) b->XX X μ b:=fun b hb=>hb.elim (fun hb=>hb.elim .inl fun h=>.inr (nG h)) fun h=>.inr (nG h);have hD:∀ u d,RD w (XX X μ) u d->RD w (XX (XX X (bF it.contains μ)) (bF (kT it) μ)) u d:=fun u d h=>h.sub sR
 have hm:∀ q m,it.contains q=false->μ q=some m->bF (kT it) μ q=some m:=fun q m hk h=>by simp only [bF,kT,hk,Bool.not_false,if_true];exact h
 have hV:∀ u x,RV w X μ u x->RV w (XX X (bF it.contains μ)) (bF (kT it) μ) u (x.tr (adH it) (pZ it)):=fun u x=>RV.r4 hD (fun u r off n h=>by
   unfold adH;split
   .exact .dead u
   .rename_i hk;obtain ⟨m,h1,h2⟩:=h.iK
    exact .own (hm r m (by simpa using hk) h1) h2) (fun u r e j h=>by
   unfold pZ;split
   .exact .dead u
   .rename_i hk;obtain ⟨m,b,h1,h2,rfl⟩:=h.abV
    exact .ref (hm r m (by simpa using hk) h1) h2)
 refine ⟨⟨fun r row hr=>?_,fun r m hr=>?_,fun q q' m1 m2 b h1 h2 c6 ey=>hi.aS.inj q q' m1 m2 b (abh h1).2 (abh h2).2 c6 ey,fun q m b hq hb hX=>?_,fun b hb=>hb.elim (hi.aS.fits b) fun h=>hi.aS.iS (nG h)⟩,⟨hi.env.defers,hi.env.size,fun i x hx=>?_⟩,fun g x hx=>hD _ _ (hi.fV g x hx)⟩
 .dsimp only [trH] at hr;split at hr
  .rename_i hk;obtain ⟨acq,h0,rfl⟩:=Option.map_eq_some_iff.1 hr;obtain ⟨m,h1,ok⟩:=hi.aS.rows r acq h0;exact ⟨m,hm r m (by simpa [kT] using hk) h1,ok.r4 (fun _ _=>rfl) hD hV⟩
  .cases hr
 .obtain ⟨hk,h1⟩:=abh hr;obtain ⟨row,h0⟩:=hi.aS.dom r m h1;exact ⟨row.tr (adH it) (pZ it),by dsimp only [trH];rw [if_pos hk];dsimp only at h0;rw [h0];rfl⟩
 .obtain ⟨hk,h1⟩:=abh hq
  rcases hX with h | ⟨q',m',hq',aO⟩
  .exact hi.aS.frame q m b h1 hb h
  .obtain ⟨hk',Bv⟩:=abh hq';obtain rfl:=hi.aS.inj q q' m m' b h1 Bv hb aO;simp only [kT,hk',Bool.not_true,Bool.false_eq_true] at hk
 .obtain ⟨y,hy,rfl⟩:=Option.map_eq_some_iff.1 hx;obtain ⟨u,hu,hr⟩:=hi.env.slot i y hy;exact ⟨u,hu,hV u y hr⟩
def w9 (fx:List Nat):AV->Prop
 | .d _=>True
 | .ref r _ _=>fx.contains r=true
 | _=>False
def V7 (P:Program) (X:Nat->Prop) (G:ao) (N:Fr) (fx:List Nat) (Q:Exit->St->Prop) (e1:Env) (next:Heap) (nx:Prop):Exit->St->Prop
 | .normal,σ=>nx/\Z1 (fM fx) X G N σ ⟨fun _=>none,next⟩
 | .ret,σ=>∃ H,Z1 (fM fx) X G N σ ⟨fun _=>none,H⟩/\Q .ret ⟨e1,H⟩
 | .exit id,σ=>∃ H,Z1 (fM fx) X G N σ ⟨fun _=>none,H⟩/\Q (.exit id) ⟨e1,H⟩
 | _,_=>False
theorem RV.w9 {X X':Nat->Prop} {l:Nat} {μ au:Mu} {fx:List Nat} {u:Value} {x:AV} (hs:w9 fx x) (ev:me l (fM fx) w μ w' au) (hl:X l) (hX:∀ b,X' b->X b) (hr:RV w X μ u x):RV w' X' au u x:=by
 cases x with
 | d x=>exact .d (hr.data.mono ev.size fun b hb aO=>by
   have h:=ev.same b hb (fun e=>aO (.inl (e ▸ hl))) fun e=>aO (.inr e)
   exact ⟨h.1,fun e=>e.elim (fun e=>aO (.inl (hX b e))) h.2⟩)
 | ref r e j=>
  obtain ⟨m,b,hm,hb,rfl⟩:=hr.abV;exact .ref (ev.kept r m hm (by unfold fM;unfold Av.w9 at hs;rw [hs];simp)) hb
 | _=>exact hs.elim
set_option maxHeartbeats 1000000 in
theorem Lq {n s:Nat} {g:Operand} {p:Tmp} {assign body:Code} {Q:Exit->St->Prop} {e0:Env} {H0:Heap} {gf:FuncId} {caps:List AV} (xs:List Value) (it fx:List Nat) (e1:Env) (inv:Nat->Heap) (ok:Nat->Prop) (QE:ok 0)
  (hg:bd G e0 g=some (.fn (.func gf) caps)) (hF:eU P gf) (hp:p < n)
  (hIt:∀ (w:World) (X:Nat->Prop) (μ:Mu) (lb:Array Value),cK w X μ (trH it.contains (du it) (dt it) H0)->(∀ g x,G g=some x->RD w (XX X μ) (.pointer (some ⟨g,0,none⟩)) x)->lb.size=caps.length->(∀ (i:Nat) (u:Value) (x:AV),lb[i]? = some u->caps[i]? = some x->RV w X μ u (x.tr (du it) (dt it)))->Fl P gf lb (fO μ) (fun b=>fO μ b\/GB G b) xs w)
  (he1:∀ i x,e1 i=some x->w9 fx x/\∃ y,e0 i=some y/\y.tr (adH it) (pZ it)=x) (hH:trH (kT it) (adH it) (pZ it) H0=inv 0) (OZ:∀ q,fM fx q->Mv q) (hfx:∀ q,fx.contains q=true->it.contains q=false)
  (QV:∀ X' l k (hk:k < xs.length),ok k->AW P (fM fx) X' G ⟨n,[],some l⟩ assign (aM (AW P (fM fx) X' G ⟨n,[],some l⟩ body (V7 P X' G ⟨n,[],some l⟩ fx Q e1 (inv (k+1)) (ok (k+1)))) (fun _ _=>False)) ⟨eF e1 p (.d (.v xs[k])),inv k⟩)
  (afF:ok xs.length->Q .normal ⟨e1,inv xs.length⟩):AW0 P Mv X G n s (.rangeFunc g #[p] assign body) Q ⟨e0,H0⟩:=by
 intro ds w μ a hsw hm hi
 obtain ⟨lb,jU,s4,pE⟩:∃ lb:Array Value,a.eval g = .func (.func gf) #[] lb/\lb.size=caps.length/\∀ (i:Nat) (u:Value) (x:AV),lb[i]? = some u->caps[i]? = some x->RV w (XD X ds) μ u x:=by
  have h:=hi.eval hg;generalize a.eval g=v at h ⊢
  cases h with
  | fn hn hr=>exact ⟨_,rfl,hn,hr⟩
 have b5:=hi.rest it;obtain ⟨CK,jg⟩:=hi.aS.part it;have hit:=hIt w _ _ lb CK (fun g x hx=>(hi.fV g x hx).sub fun b=>AG.1) s4 fun i u x hu hx=>jg (pE i u x hu hx);generalize hB:bF it.contains μ=o3 at b5 CK hit;have GI:∀ b,fO o3 b->fO μ b:=fun b h=>nG (hB ▸ h);have aeB:∀ b,fO o3 b->b < w.heap.size:=fun b h=>hi.aS.iS (GI b h);rw [hH] at b5
 have hi1:In w (XX (XD X ds) o3) G (bF (kT it) μ) ⟨n,ds.map mark,none⟩ a ⟨e1,inv 0⟩:=⟨b5.aS,⟨b5.env.defers,b5.env.size,fun i x hx=>by
  obtain ⟨_,y,hy,rfl⟩:=he1 i x hx
  exact b5.env.slot i _ (by dsimp only;rw [hy];rfl)⟩,b5.fV⟩
 clear b5 jg CK;refine wpIn_rangeFunc fun fn _=>?_;generalize hD:w.heap.size=d at *;obtain ⟨rec,adC⟩:∃ rec:LoopState->Option Code->Loop,rec=fun st pe=>{ state:=st,pending:=pe,fn,tmps:=a.tmps,params:=#[p],assign,body,defers:=d }:=⟨_,rfl⟩;obtain ⟨W1,hW1⟩:∃ W1,(w.alloc (.deferred (some []))).alloc (.loop (rec .ready none))=W1:=⟨_,rfl⟩
 have tm:W1.heap.size=d+2:=by rw [<- hW1];simp;omega
 have oC:bU w W1:=by
  rw [<- hW1];have h1:=bU.alloc w (.deferred (some []));have h2:=bU.alloc (w.alloc (.deferred (some []))) (.loop (rec .ready none));exact ⟨Nat.le_trans h1.size h2.size,h2.os.trans h1.os,h2.tape.trans h1.tape,h2.output.trans h1.output,fun b hb=>(h2.same b (Nat.lt_of_lt_of_le hb h1.size)).trans (h1.same b hb)⟩
 have qJ:W1.heap[d+1]? = some (.loop (rec .ready none)):=by
  rw [<- hW1];have:=World.alloc_heap_new (w.alloc (.deferred (some []))) (.loop (rec .ready none));rwa [World.size_alloc,hD] at this
 have ay:W1.heap[d]? = some (.deferred (some [])):=by
  rw [<- hW1,(bU.alloc (w.alloc (.deferred (some []))) (.loop (rec .ready none))).same d (by simp;omega),<- hD];exact World.alloc_heap_new w _
 let X':Nat->Prop:=fun b=>XX (XD X ds) o3 b\/b=d\/b=d+1
 have Yo:∀ b,XX (XD X ds) o3 b->b < d:=fun b hb=>by have:=hi1.aS.fits b hb;omega
 have ea:In W1 X' G (bF (kT it) μ) ⟨n,ds.map mark,none⟩ a ⟨e1,inv 0⟩:=hi1.turn (fun b hb=>hb.elim .inl fun hb=>.inr (by omega)) (fun b hb _=>oC.same b hb) oC.size hi1.env.defers rfl rfl
 have Ci:Ev (fM fx) w μ W1 (bF (kT it) μ):=⟨oC.size,oC.os,oC.tape,oC.output,fun b hb hr=>⟨oC.same b hb,fun h=>hr (nG h)⟩,fun q m hq hn=>by
  have PY:fx.contains q=true:=by
   cases h:fx.contains q with
   | true=>rfl
   | false=>exact absurd h hn
  simp only [bF,kT,hfx q PY,Bool.not_false,if_true];exact hq⟩
 let At (st:LoopState) (pe:Option Code) (H:Heap) (W:World):Prop:=(∃ au,In W X' G au ⟨n,ds.map mark,none⟩ a ⟨e1,H⟩/\Ev (fM fx) w μ W au)/\W.heap[d+1]? = some (.loop (rec st pe))/\W.heap[d]? = some (.deferred (some []))
 have GF:∀ st pe H W W',At st pe H W->Grown (fO o3) W W'->At st pe H W':=by
  rintro st pe H W W' ⟨⟨au,aC,aG⟩,hl,hk⟩ dI;have ax:d+1 < W.heap.size:=(Array.getElem?_eq_some_iff.1 hl).1
  have Hs:∀ b,d<=b->¬ fO o3 b:=fun b hb h=>by have:=aeB b h;omega
  refine ⟨⟨au,aC.turn (fun b hb=>.inl hb) (fun b hb hx=>dI.same b hb fun h=>hx (.inl (.inr h))) dI.size aC.env.defers rfl rfl,⟨Nat.le_trans aG.size dI.size,dI.os.trans aG.os,dI.tape.trans aG.tape,dI.output.trans aG.output,fun b hb hr=>?_,aG.kept⟩⟩,(dI.same _ ax (Hs _ (by omega))).trans hl,(dI.same _ (by omega) (Hs _ (Nat.le_refl _))).trans hk⟩;have h:=aG.same b hb hr;exact ⟨(dI.same b (Nat.lt_of_lt_of_le hb aG.size) fun hh=>hr (GI b hh)).trans h.1,h.2⟩
 let Jx:World->Prop:=fun W=>∃ (c:Code) (H:Heap),((c=Code.ret/\Q .ret ⟨e1,H⟩)\/∃ id,c=Code.exit id/\Q (.exit id) ⟨e1,H⟩)/\At .done (some c) H W
 have QW:∀ k (hk:k < xs.length) W,ok k/\At .ready none (inv k) W->YieldAt (wd none) 0 P (d+1) #[xs[k]] W fun e W'=>
   (e = .returned (.bool true)/\(ok (k+1)/\At .ready none (inv (k+1)) W')/\Kept (fun b=>fO o3 b\/GB G b) W W')\/(e = .returned (.bool false)/\Jx W'):=by
  rintro k hk W ⟨QG,⟨au,aC,aG⟩,hl,Qi⟩;have ax:d+1 < W.heap.size:=(Array.getElem?_eq_some_iff.1 hl).1;have hy:=run_yield (P:=P) (args:=#[xs[k]]) hl (by rw [adC];rfl);rw [adC] at hy;refine ⟨fn,_,assign,body,hy,roundIn_of_wpIn (F:=wd none) trivial ?_⟩;clear hy
  have PX:(((#[p]:Array Tmp).zip #[xs[k]]).foldl (fun tmps (t,a)=>tmps.setIfInBounds t a) a.tmps)=a.tmps.setIfInBounds p xs[k]:=by simp
  show assign.wpIn (wd (some (d+1))) 0 P _ { tmps:=(((#[p]:Array Tmp).zip #[xs[k]]).foldl (fun tmps (t,a)=>tmps.setIfInBounds t a) a.tmps),defers:=[] } W;rw [PX];have aI:=aC.env.size
  have P9:In W X' G au ⟨n,[],some (d+1)⟩ { tmps:=a.tmps.setIfInBounds p xs[k],defers:=[] } ⟨eF e1 p (.d (.v xs[k])),inv k⟩:=⟨aC.aS,⟨rfl,by simpa using aI,fun i x hx=>by
   simp only [eF] at hx;split at hx
   .rename_i e;obtain rfl:=Option.some.inj hx
    have:p < a.tmps.size:=by rw [aI];exact hp
    exact ⟨xs[k],by rw [e];simp [this],.d (.v _)⟩
   .rename_i e;obtain ⟨u,hu,hr⟩:=aC.env.slot i x hx
    exact ⟨u,by simp [Array.getElem?_setIfInBounds,Ne.symm e,hu],hr⟩⟩,aC.fV⟩
  refine wpIn_mono (QV X' (d+1) k hk QG W au _ P9) fun e a1 w1 ⟨im,aH,q1,HX,ev1⟩=>?_
  cases e with
  | normal=>
   have iX:X' (d+1):=.inr (.inr rfl);have G1:X' d:=.inr (.inl rfl);have hnr:∀ {W:World} {μ:Mu} {H:Heap} {b:Nat},cK W X' μ H->X' b->¬ fO μ b:=fun hs hx ⟨r,m,h1,h2⟩=>hs.frame r m _ h1 h2 hx;have gU:=(ev1.same _ ax (hnr aC.aS iX)).1.trans hl;have hk1:=(ev1.same d (by omega) (hnr aC.aS G1)).1.trans Qi;have CB:d+1 < w1.heap.size:=(Array.getElem?_eq_some_iff.1 gU).1;refine ⟨_,run_beginRound gU (by rw [adC]),?_⟩;have Df:In (w1.putObj (d+1) (.loop { rec .ready none with state:=.busy })) X' G im ⟨n,[],some (d+1)⟩ a1 aH:=HX.turn (fun b hb=>.inl hb) (fun b hb hx=>World.putObj_heap_other fun e=>hx (e ▸ iX)) (by simp) HX.env.defers rfl rfl;have evb:me (d+1) (fM fx) W au (w1.putObj (d+1) (.loop { rec .ready none with state:=.busy })) im:=(ev1.but _).trans (.put _ _ _ _ _);refine wpIn_mono (q1 _ im a1 Df) fun e a3 w3 ⟨X8,eT,q3,Rj,uO⟩=>?_;have Hq:w3.heap[d+1]? = some (.loop { rec .ready none with state:=.busy }):=(uO.same (d+1) (by simpa using CB) (hnr Df.aS iX)).1.trans (World.putObj_heap_same CB);have cO:w3.heap[d]? = some (.deferred (some [])):=(uO.same d (by simp;omega) (hnr Df.aS G1)).1.trans ((World.putObj_heap_other (by omega)).trans hk1);have N3:=evb.trans (uO.but (d+1));have jy:d+1 < w3.heap.size:=(Array.getElem?_eq_some_iff.1 Hq).1
   have fin:∀ (jump:Option Code) (H:Heap),Z1 (fM fx) X' G ⟨n,[],some (d+1)⟩ eT ⟨fun _=>none,H⟩->∃ w4,(Instr.endRound (d+1) jump).run P w3 = .ok (.bool jump.isNone) w4/\At (if jump.isNone then .ready else .done) jump H w4/\Kept (fun b=>fO o3 b\/GB G b) W w4:=fun jump H himp=>by
    obtain ⟨Ln,HY,N0⟩:=himp w3 X8 a3 Rj;have uP:=(N3.trans (N0.but (d+1))).trans (.put (fM fx) w3 Ln (d+1) (.loop (rec (if jump.isNone then .ready else .done) jump)));refine ⟨w3.putObj (d+1) (.loop (rec (if jump.isNone then .ready else .done) jump)),?_,⟨⟨Ln,?_,?_⟩,World.putObj_heap_same jy,(World.putObj_heap_other (by omega)).trans cO⟩,uP.size,fun b hb=>?_⟩
    .have:=run_endRound (P:=P) jump Hq;rw [adC] at this ⊢;exact this
    .have HJ:=(HY.turn (N':=⟨n,[],some (d+1)⟩) (X':=X') (w':=w3.putObj (d+1) (.loop (rec (if jump.isNone then .ready else .done) jump))) (fun b hb=>.inl hb) (fun b hb hx=>World.putObj_heap_other fun e=>hx (e ▸ iX)) (by simp) HY.env.defers rfl rfl)
     exact ⟨HJ.aS,⟨aC.env.defers,aC.env.size,fun i x hx=>by
      obtain ⟨u,hu,hr⟩:=aC.env.slot i x hx
      exact ⟨u,hu,hr.w9 (he1 i x hx).1 uP iX fun b hb=>hb⟩⟩,HJ.fV⟩
    .exact ((aG.but (d+1)).trans uP).ev (by omega)
    .rcases hb with hb | hb
     .exact (uP.same b (by have:=aeB b hb;omega) (fun e=>by have:=aeB b hb;omega) (hnr aC.aS (.inl (.inr hb)))).1
     .obtain ⟨h1,h2⟩:=aeO aC.fV hb;exact (uP.same b h2 (fun e=>h1 (.inl (e ▸ iX))) fun hr=>h1 (.inr hr)).1
   cases e with
   | normal=>
    obtain ⟨eo,q3⟩:=q3;obtain ⟨w4,h1,h2,h3⟩:=fin none _ q3;exact ⟨_,w4,h1,.inl ⟨rfl,⟨eo,h2⟩,h3⟩⟩
   | ret=>
    obtain ⟨H,himp,hq⟩:=q3;obtain ⟨w4,h1,h2,_⟩:=fin (some .ret) H himp;exact ⟨_,w4,h1,.inr ⟨rfl,.ret,H,.inl ⟨rfl,hq⟩,h2⟩⟩
   | exit id=>
    obtain ⟨H,himp,hq⟩:=q3;obtain ⟨w4,h1,h2,_⟩:=fin (some (.exit id)) H himp;exact ⟨_,w4,h1,.inr ⟨rfl,.exit id,H,.inr ⟨id,rfl,hq⟩,h2⟩⟩
   | _=>exact q3.elim
  | _=>exact q1.elim
 refine ⟨d+1,[mark d],W1,{ target:=.fn (.func gf) lb,args:=#[.func (.yield (d+1)) #[] #[]] },W1,gf,#[.func (.yield (d+1)) #[] #[]] ++ lb,W1,?_,?_,fun _ _=>trivial,?_,fun e=>(by cases e),La (Calls.mono
  (hit (d+1) (fun k W=>ok k/\At .ready none (inv k) W) Jx
   (fun k W W' h dI=>⟨h.1,GF _ _ _ W W' h.2 dI⟩) (fun W W' ⟨c,H,hq,h⟩ dI=>⟨c,H,hq,GF _ _ _ W W' h dI⟩) QW W1 ⟨oC.size,fun b hb=>oC.same b (hb.elim (fun h=>by have:=aeB b h;omega) fun h=>by have:=(aeO hi.fV h).2;omega)⟩ ⟨QE,⟨_,ea,Ci⟩,qJ,ay⟩) ?_)⟩
 .rw [<- hW1,adC];have:=run_enterLoop_outer (P:=P) (w:=w) fn a.tmps #[p] assign body;rw [hD] at this;exact this
 .simp only [resolve,jU];simp [go_sem]
 .have:=hF;simp [invoke,go_sem,hF _ W1]
 .rintro e W2 ⟨⟨v,rfl⟩,hJ⟩
  have out:∀ st pe H,st≠.busy->At st pe H W2->∃ w4,(Instr.endLoop (d+1)).run P W2 = .ok pe w4/\∀ q:Exit,Q q ⟨e1,H⟩->Fj Mv X G n s w μ Q q { a with defers:=[mark d] ++ a.defers } w4:=by
   rintro st pe H dO ⟨⟨au,aC,aG⟩,hl,hk⟩;have ax:d+1 < W2.heap.size:=(Array.getElem?_eq_some_iff.1 hl).1;refine ⟨W2.putObj (d+1) (.loop { rec st pe with state:=.exhausted }),?_,fun q hq=>⟨d :: ds,au,⟨e1,H⟩,hq,⟨?_,?_,?_⟩,?_,?_⟩⟩
   .have:=run_endLoop (P:=P) hl (by rw [adC];exact dO);rw [adC] at this ⊢;exact this
   .exact List.nodup_cons.2 ⟨fun h=>by have:=(Array.getElem?_eq_some_iff.1 (hm.tO d h)).1;omega,hm.nodup⟩
   .intro x hx
    rcases List.mem_cons.1 hx with rfl | hx
    .omega
    .exact hm.new x hx
   .intro x hx
    rcases List.mem_cons.1 hx with rfl | hx
    .exact (World.putObj_heap_other (by omega)).trans hk
    .have h0:=(Array.getElem?_eq_some_iff.1 (hm.tO x hx)).1;have h1:=aG.same x h0 fun ⟨r,m,h1,h2⟩=>hi.aS.frame r m x h1 h2 (.inr hx);exact (World.putObj_heap_other (by omega)).trans (h1.1.trans (hm.tO x hx))
   .refine aC.turn (fun b hb=>.inl ?_) (fun b hb hx=>World.putObj_heap_other fun e=>hx (.inr (.inr e))) (by simp) ?_ rfl rfl
    .rcases hb with hb | hb
     .exact .inl (.inl (.inl hb))
     .rcases List.mem_cons.1 hb with rfl | hb
      .exact .inr (.inl rfl)
      .exact .inl (.inl (.inr hb))
    .show [mark d] ++ a.defers=(d :: ds).map mark;rw [aC.env.defers];rfl
   .refine (((aG.but (d+1)).trans (.put _ _ _ _ _)).ev (by omega)).weaken fun q m _ hq=>OZ q hq
  rcases hJ with ⟨QF,hJ⟩ | ⟨c,H,hq,hJ⟩
  .obtain ⟨w4,h1,h2⟩:=out _ _ _ (by simp) hJ;exact ⟨none,w4,h1,h2 .normal (afF QF)⟩
  .obtain ⟨w4,h1,h2⟩:=out _ _ _ (by simp) hJ;refine ⟨some c,w4,h1,?_⟩
   rcases hq with ⟨rfl,hq⟩ | ⟨id,rfl,hq⟩
   .exact wpIn_ret (h2 .ret hq)
   .exact wpIn_exit (h2 (.exit id) hq)
end
end Go.Av
