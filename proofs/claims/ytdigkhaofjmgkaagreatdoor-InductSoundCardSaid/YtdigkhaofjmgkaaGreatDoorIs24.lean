/- Parts. -/
import Derived.Test.YtdigkhaofjmgkaaGreatDoorIs10
import Derived.RangeFuncSeq
set_option linter.unusedSectionVars false
set_option linter.unusedSimpArgs false
set_option linter.unusedVariables false
set_option maxHeartbeats 1000000
namespace Go.Av
def mark (d:Nat):Deferred:={ target:=.collected d,args:=#[] }
structure Marks (s:Nat) (w:World) (ds:List Nat):Prop where
 nodup:ds.Nodup
 new:∀ d∈ds,s<=d
 rZ:∀ d∈ds,w.heap[d]? = some (.deferred (some []))
def XD (X:Nat->Prop) (ds:List Nat) (b:Nat):Prop:=X b\/b∈ds
structure lq (l:Nat) (Mv:Nat->Prop) (w:World) (μ:Mu) (w':World) (ak:Mu):Prop where
 size:w.heap.size<=w'.heap.size
 os:w'.os=w.os
 tape:w'.tape=w.tape
 output:w'.output=w.output
 same:∀ b,b < w.heap.size->b≠l->¬ eT μ b->w'.heap[b]? = w.heap[b]?/\¬ eT ak b
 kept:∀ r m,μ r=some m->¬ Mv r->ak r=some m
theorem Ev.but {Mv:Nat->Prop} {w w':World} {μ ak:Mu} (h:Ev Mv w μ w' ak) (l:Nat):lq l Mv w μ w' ak:=⟨h.size,h.os,h.tape,h.output,fun b hb _ hr=>h.same b hb hr,h.kept⟩
theorem lq.trans {l:Nat} {Mv:Nat->Prop} {w w1 w2:World} {μ Z8 fy:Mu} (h:lq l Mv w μ w1 Z8) (h':lq l Mv w1 Z8 w2 fy):lq l Mv w μ w2 fy:=
 ⟨Nat.le_trans h.size h'.size,h'.os.trans h.os,h'.tape.trans h.tape,h'.output.trans h.output,fun b hb hl hr=>
  have h1:=h.same b hb hl hr;have h2:=h'.same b (Nat.lt_of_lt_of_le hb h.size) hl h1.2
  ⟨h2.1.trans h1.1,h2.2⟩,fun r m hm hn=>h'.kept r m (h.kept r m hm hn) hn⟩
theorem lq.put (Mv:Nat->Prop) (w:World) (μ:Mu) (l:Nat) (o:Obj):lq l Mv w μ (w.putObj l o) μ:=
 ⟨by simp,rfl,rfl,rfl,fun b _ hl hr=>⟨World.putObj_heap_other hl,hr⟩,fun _ _ h _=>h⟩
theorem lq.ev {l:Nat} {Mv:Nat->Prop} {w w':World} {μ ak:Mu} (h:lq l Mv w μ w' ak) (hl:w.heap.size<=l):Ev Mv w μ w' ak:=
 ⟨h.size,h.os,h.tape,h.output,fun b hb hr=>h.same b hb (by omega) hr,h.kept⟩
section
variable {P:Program} {T:Ty} {Mv X:Nat->Prop} {G:YI} {N:Fr} {w w':World} {μ:Mu} {a:Act} {σ:St}
theorem In.turn {N':Fr} {X':Nat->Prop} {a':Act} (hi:In w X G μ N a σ) (hX:∀ b,X' b->X b\/(w.heap.size<=b/\b < w'.heap.size)) (oR:∀ b,b < w.heap.size->¬ X b->w'.heap[b]? = w.heap[b]?) (aK:w.heap.size<=w'.heap.size)
  (hd:a'.defers=N'.ds) (hn:N'.n=N.n) (ht:a'.tmps=a.tmps):In w' X' G μ N' a' σ:=by
 have hD:∀ u d,RD w (XX X μ) u d->RD w' (XX X' μ) u d:=fun u d h=>h.mono aK fun b hb aH=>
  ⟨oR b hb fun e=>aH (.inl e),fun e=>aH (e.elim (fun e=>(hX b e).elim .inl fun ⟨h,_⟩=>absurd hb (Nat.not_lt.2 h)) .inr)⟩
 refine⟨⟨fun r row hr=>?_,hi.aL.gw,hi.aL.inj,fun r m b hr hb hx=>?_,fun b hb=>?_⟩,⟨hd,by rw[ht,hn];exact hi.env.size,fun i x hx=>?_⟩,fun g x hx=>hD _ _ (hi.eY g x hx)⟩
 .obtain⟨m,hm,ok⟩:=hi.aL.rows r row hr;exact⟨m,hm,ok.lift (fun b hb=>oR b (ok.aal hb) (hi.aL.frame r m b hm hb)) hD fun _ _ h=>h⟩
 .have YJ:=hi.aL.aal ⟨r,m,hr,hb⟩;exact (hX b hx).elim (hi.aL.frame r m b hr hb) fun ⟨h,_⟩=>absurd YJ (Nat.not_lt.2 h)
 .exact (hX b hb).elim (fun h=>Nat.lt_of_lt_of_le (hi.aL.fits b h) aK) (·.2)
 .obtain⟨u,hu,hr⟩:=hi.env.slot i x hx;exact⟨u,by rw[ht];exact hu,hr.lift hD fun _ _ h=>h⟩
theorem Marks.ev {s:Nat} {ds:List Nat} {H:Heap} {ak:Mu} (hm:Marks s w ds) (hs:Zf w (XD X ds) μ H) (ev:Ev Mv w μ w' ak):Marks s w' ds:=
 ⟨hm.nodup,hm.new,fun d hd=>(ev.same d (Array.getElem?_eq_some_iff.1 (hm.rZ d hd)).1 fun ⟨r,m,hr,hb⟩=>hs.frame r m d hr hb (.inr hd)).1.trans (hm.rZ d hd)⟩
def Dy (Mv X:Nat->Prop) (G:YI) (n s:Nat) (w:World) (μ:Mu) (Q:Exit->St->Prop) (e:Exit) (a':Act) (w':World):Prop:=
 ∃ ds ak ag,Q e ag/\Marks s w' ds/\In w' (XD X ds) G ak ⟨n,ds.map mark,none⟩ a' ag/\Ev Mv w μ w' ak
def cY (P:Program) (Mv X:Nat->Prop) (G:YI) (n s:Nat) (c:Code) (Q:Exit->St->Prop) (σ:St):Prop:=
 ∀ ds w μ a,s<=w.heap.size->Marks s w ds->In w (XD X ds) G μ ⟨n,ds.map mark,none⟩ a σ->c.wpIn (wd none) 0 P (Dy Mv X G n s w μ Q) a w
theorem vh {n s:Nat} {c:Code} {Q:Exit->St->Prop} (h:∀ X' ds,AW P Mv X' G ⟨n,ds,none⟩ c Q σ):cY P Mv X G n s c Q σ:=fun ds w μ a hs hm hi=>
 wpIn_mono (h (XD X ds) _ w μ a hi) fun e a' w' ⟨ak,ag,q,i,ev⟩=>⟨ds,ak,ag,q,hm.ev hi.aL ev,i,ev⟩
theorem cY.mono {n s:Nat} {c:Code} {Q Q':Exit->St->Prop} (h:cY P Mv X G n s c Q σ) (hq:∀ e σ,Q e σ->Q' e σ):cY P Mv X G n s c Q' σ:=fun ds w μ a hs hm hi=>
 wpIn_mono (h ds w μ a hs hm hi) fun _ _ _ ⟨dk,ak,ag,q,r⟩=>⟨dk,ak,ag,hq _ _ q,r⟩
theorem cY.imp {n s:Nat} {c:Code} {Q:Exit->St->Prop} {τ:St} (hi:∀ X' ds,aC Mv X' G ⟨n,ds,none⟩ σ τ) (h:cY P Mv X G n s c Q τ):cY P Mv X G n s c Q σ:=fun ds w μ a hs hm ax=>by
 obtain⟨Z8,h1,e1⟩:=hi (XD X ds) _ w μ a ax;exact wpIn_mono (h ds w Z8 a hs hm h1) fun e a' w' ⟨dk,ak,ag,q,m,i,ev⟩=>⟨dk,ak,ag,q,m,i,e1.trans ev⟩
theorem acL {n s:Nat} {x y:Code} {Q:Exit->St->Prop} (h:cY P Mv X G n s x (YO (cY P Mv X G n s y Q) Q) σ):cY P Mv X G n s (.seq x y) Q σ:=fun ds w μ a hs hm hi=>
 wpIn_seq (wpIn_mono (h ds w μ a hs hm hi) fun e a' w' ⟨dk,ak,ag,q,m,i,ev⟩=>by
  cases e with
  | normal=>exact wpIn_mono (q dk w' ak a' (Nat.le_trans hs ev.size) m i) fun e2 a2 w2 ⟨Mr,fy,dh,q2,m2,i2,pK⟩=>⟨Mr,fy,dh,q2,m2,i2,ev.trans pK⟩
  | _=>exact⟨dk,ak,ag,q,m,i,ev⟩)
theorem Ka {n s id:Nat} {c:Code} {Q:Exit->St->Prop} (h:cY P Mv X G n s c (bd id Q) σ):cY P Mv X G n s (.block id c) Q σ:=fun ds w μ a hs hm hi=>
 wpIn_block (wpIn_mono (h ds w μ a hs hm hi) fun e a' w' ⟨dk,ak,ag,q,m,i,ev⟩=>by
  cases e with
  | exit xo=>
   simp only[bd]at q;simp only[Exit.inBlock];split
   .rename_i he;rw[if_pos he]at q;exact⟨dk,ak,ag,q,m,i,ev⟩
   .rename_i he;rw[if_neg he]at q;exact⟨dk,ak,ag,q,m,i,ev⟩
  | _=>exact⟨dk,ak,ag,q,m,i,ev⟩)
theorem SZ {fn:Func} {tmps:Array Value} {R:Ending->World->Prop}:∀ (ds:List Nat) (w:World),ds.Nodup->(∀ d∈ds,w.heap[d]? = some (.deferred (some [])))->
  (∀ w',w'.heap.size=w.heap.size->w'.os=w.os->w'.tape=w.tape->w'.output=w.output->(∀ b,b ∉ ds->w'.heap[b]? = w.heap[b]?)->∃ v,(results fn tmps).run P w' = .ok v w'/\R (.returned v) w')->
  LeavesInM (wd none) 0 P fn tmps R (ds.map mark) .returning w:=by
 intro ds
 induction ds with
 | nil=>
  intro w _ _ h;obtain⟨v,hv,hR⟩:=h w rfl rfl rfl rfl fun _ _=>rfl;show LeavesIn (wd none) 0 P fn tmps R [] .returning w;exact⟨v,hv,hR⟩
 | cons d ds ih=>
  intro w hn ho h;obtain⟨hd,hn⟩:=List.nodup_cons.1 hn;refine⟨by simp,.inl ⟨d,w.putObj d (.deferred none),rfl,run_takeDeferred (ho d (by simp)),ih _ hn (fun e he=>?_) fun w' h1 h2 h3 h4 h5=>?_⟩⟩
  .rw[World.putObj_heap_other (fun e':e=d=>hd (by rw[<- e'];exact he))];exact ho e (by simp[he])
  .refine h w' (by simpa using h1) h2 h3 h4 fun b hb=>?_;rw[h5 b (fun e=>hb (by simp[e])),World.putObj_heap_other (fun e=>hb (by simp[e]))]
theorem In.shut {n:Nat} {ds:List Nat} (hi:In w (XD X ds) G μ ⟨n,ds.map mark,none⟩ a σ) (h1:w'.heap.size=w.heap.size) (h5:∀ b,b ∉ ds->w'.heap[b]? = w.heap[b]?):In w' X G μ ⟨n,[],none⟩ { a with defers:=[] } σ:=
 hi.turn (fun b hb=>.inl (.inl hb)) (fun b _ hb=>h5 b fun e=>hb (.inr e)) (by omega) rfl rfl rfl
theorem Ev.shut {s:Nat} {w0:World} {eV:Mu} {ds:List Nat} (h:Ev Mv w0 eV w μ) (hm:Marks s w ds) (hs:w0.heap.size<=s) (h1:w'.heap.size=w.heap.size) (h2:w'.os=w.os) (h3:w'.tape=w.tape) (h4:w'.output=w.output) (h5:∀ b,b ∉ ds->w'.heap[b]? = w.heap[b]?):Ev Mv w0 eV w' μ:=
 ⟨by have:=h.size;omega,h2.trans h.os,h3.trans h.tape,h4.trans h.output,fun b hb hr=>by
  have h6:=h.same b hb hr
  exact⟨(h5 b fun e=>by have:=hm.new b e;omega).trans h6.1,h6.2⟩,h.kept⟩
theorem aq.TZ (hg:Good P T) {g:FuncId} {fn:Func} {c:Code} {rs:List ResultVar} {ds:List D} {y:D} (hf:P.funcs[g]? = some fn) (hb:fn.body=some c) (hn:(fn.name == "runtime.NumGoroutine")=false) (ie:fn.results=rs.toArray)
  (hN:ds.length<=fn.ntmps) (h:∀ X s,cY P (fun _=>True) X G fn.ntmps s c (yY T rs y) ⟨args (ds.map .d),hno⟩):aq P G g ds y:=by
 refine⟨fo.of hf hb hn,fun X w μ vs hs Y7 aK hv=>?_⟩
 refine (callsIn_wide (n:=0)).1 (callsIn_of_wp_marks hf hb trivial (wpIn_mono (h X w.heap.size [] w μ _ (Nat.le_refl _) ⟨List.nodup_nil,by simp,by simp⟩
  (In.turn (X:=X) (N:=⟨fn.ntmps,[],none⟩) (a:={ tmps:=vs ++ Array.replicate (fn.ntmps - vs.size) undef,defers:=[] }) ⟨hs,⟨rfl,by simp;simp at aK;omega,fun i x hx=>?_⟩,Y7⟩ (fun b hb=>.inl (hb.elim id (by simp))) (fun _ _ _=>rfl) (Nat.le_refl _) rfl rfl rfl)) fun e a' w' ⟨dk,ak,ag,q,hm,i,ev⟩=>?_))
 .simp only[args]at hx;have hi:i < (ds.map AV.d).length:=(List.getElem?_eq_some_iff.1 hx).1
  have lV:vs[i]? = some vs[i]:=by rw[Array.getElem?_eq_getElem]
  exact⟨vs[i],by rw[Array.getElem?_append_left (by omega),lV],hv i _ x lV hx⟩
 .have fin:q6 T rs y ag->LeavesInM (wd none) 0 P fn a'.tmps (fun e w'=>∃ v x H' ak,e = .returned v/\(x = .d y/\H'=hno)/\RV w' X ak v x/\Zf w' X ak H'/\Ev (fun _=>True) w μ w' ak) a'.defers .returning w':=fun he=>by
   rw[i.env.defers];refine SZ dk w' hm.nodup hm.rZ fun w2 h1 h2 h3 h4 h5=>?_;have hi:=i.shut h1 h5;have aD:=ev.shut hm (Nat.le_refl _) h1 h2 h3 h4 h5;unfold q6 at he;split at he
   .rename_i c xs hx;obtain⟨hc,he⟩:=he;split at he
    .rename_i y' hy;obtain⟨v,hv,hr⟩:=CJ (P:=P) hg hi ie hx hc;have bq:=(yT hi.aL 6 hy hr).le he;refine⟨v,hv,v,.d y,hno,fun _=>none,rfl,⟨rfl,rfl⟩,.d (bq.sub fun b=>jt.1),Zf.none hi.aL.fits,aD.size,aD.os,aD.tape,aD.output,fun b hb hr=>⟨(aD.same b hb hr).1,fun ⟨_,_,h,_⟩=>by cases h⟩,fun r m _ hn=>absurd trivial hn⟩
    .exact he.elim
   .exact he.elim
  cases e with
  | normal=>exact fin q
  | ret=>exact fin q
  | _=>exact q.elim
structure Grown (B:Nat->Prop) (w w':World):Prop where
 size:w.heap.size<=w'.heap.size
 os:w'.os=w.os
 tape:w'.tape=w.tape
 output:w'.output=w.output
 same:∀ b,b < w.heap.size->¬ B b->w'.heap[b]? = w.heap[b]?
structure Kept (B:Nat->Prop) (w w':World):Prop where
 size:w.heap.size<=w'.heap.size
 same:∀ b,B b->w'.heap[b]? = w.heap[b]?
def GB (G:YI) (b:Nat):Prop:=∃ x,G b=some x/\((∃ l,x = .ip l)\/∃ cs,x = .j0 cs)
theorem yA {G:YI} {w:World} {X:Nat->Prop} (Y7:∀ g x,G g=some x->RD w X (.pointer (some ⟨g,0,none⟩)) x) {b:Nat} (h:GB G b):¬ X b/\b < w.heap.size:=by
 obtain⟨x,hx,h | h⟩:=h
 .obtain⟨l,rfl⟩:=h;have h1:=Y7 _ _ hx;generalize hy:D.ip l=y at h1;generalize hv:Value.pointer (some ⟨b,0,none⟩)=v at h1;cases h1<;>cases hy;rename_i hX hb _ _;injection hv with hv;injection hv with hv;injection hv with hv;subst hv;exact⟨hX,hb⟩
 .obtain⟨cs,rfl⟩:=h;have h1:=Y7 _ _ hx;generalize hy:D.j0 cs=y at h1;generalize hv:Value.pointer (some ⟨b,0,none⟩)=v at h1;cases h1<;>cases hy;rename_i hX hb;injection hv with hv;injection hv with hv;injection hv with hv;subst hv;exact⟨hX,(Array.getElem?_eq_some_iff.1 hb).1⟩
def DB (P:Program) (gf:FuncId) (lb:Array Value) (B C:Nat->Prop) (xs:List Value) (w0:World):Prop:=
 ∀ (l:Nat) (J:Nat->World->Prop) (Jx:World->Prop),(∀ k W W',J k W->Grown B W W'->J k W')->(∀ W W',Jx W->Grown B W W'->Jx W')->
  (∀ k (hk:k < xs.length) W,J k W->YieldAt (wd none) 0 P l #[xs[k]] W fun e W'=>(e = .returned (.bool true)/\J (k+1) W'/\Kept C W W')\/(e = .returned (.bool false)/\Jx W'))->
  ∀ w1,Kept C w0 w1->J 0 w1->Calls P gf (#[.func (.yield l) #[] #[]] ++ lb) w1 fun e W'=>(∃ v,e = .returned v)/\(J xs.length W'\/Jx W')
def jR (it:List Nat) (q:Nat):Bool:=!it.contains q
def qt (it:List Nat) (q off n:Nat):AV:=if it.contains q then .dead else .own q off n
def o5 (it:List Nat) (q e j:Nat):AV:=if it.contains q then .dead else .ref q e j
theorem In.rest {e0:Env} {H0:Heap} (it:List Nat) (hi:In w X G μ N a ⟨e0,H0⟩):In w (XX X (br it.contains μ)) G (br (jR it) μ) N a ⟨fun i=>(e0 i).map (AV.tr (qt it) (o5 it)),Zg (jR it) (qt it) (o5 it) H0⟩:=by
 have hXX:∀ b,XX (XX X (br it.contains μ)) (br (jR it) μ) b->XX X μ b:=fun b hb=>hb.elim (fun hb=>hb.elim .inl fun h=>.inr (mD h)) fun h=>.inr (mD h);have hD:∀ u d,RD w (XX X μ) u d->RD w (XX (XX X (br it.contains μ)) (br (jR it) μ)) u d:=fun u d h=>h.sub hXX
 have hm:∀ q m,it.contains q=false->μ q=some m->br (jR it) μ q=some m:=fun q m hk h=>by simp only[br,jR,hk,Bool.not_false,if_true];exact h
 have hV:∀ u x,RV w X μ u x->RV w (XX X (br it.contains μ)) (br (jR it) μ) u (x.tr (qt it) (o5 it)):=fun u x=>RV.qK hD (fun u r off n h=>by
   unfold qt;split
   .exact .dead u
   .rename_i hk;obtain⟨m,h1,h2⟩:=h.Z3
    exact .own (hm r m (by simpa using hk) h1) h2) (fun u r e j h=>by
   unfold o5;split
   .exact .dead u
   .rename_i hk;obtain⟨m,b,h1,h2,rfl⟩:=h.gL
    exact .ref (hm r m (by simpa using hk) h1) h2)
 refine⟨⟨fun r row hr=>?_,fun r m hr=>?_,fun q q' m1 m2 b h1 h2 Zp c6=>hi.aL.inj q q' m1 m2 b (fG h1).2 (fG h2).2 Zp c6,fun q m b hq hb hX=>?_,fun b hb=>hb.elim (hi.aL.fits b) fun h=>hi.aL.aal (mD h)⟩,⟨hi.env.defers,hi.env.size,fun i x hx=>?_⟩,fun g x hx=>hD _ _ (hi.eY g x hx)⟩
 .dsimp only[Zg]at hr;split at hr
  .rename_i hk;obtain⟨jo,h0,rfl⟩:=Option.map_eq_some_iff.1 hr;obtain⟨m,h1,ok⟩:=hi.aL.rows r jo h0;exact⟨m,hm r m (by simpa[jR]using hk) h1,ok.qK (fun _ _=>rfl) hD hV⟩
  .cases hr
 .obtain⟨hk,h1⟩:=fG hr;obtain⟨row,h0⟩:=hi.aL.gw r m h1;exact⟨row.tr (qt it) (o5 it),by dsimp only[Zg];rw[if_pos hk];dsimp only at h0;rw[h0];rfl⟩
 .obtain⟨hk,h1⟩:=fG hq
  rcases hX with h | ⟨q',m',fT,aH⟩
  .exact hi.aL.frame q m b h1 hb h
  .obtain⟨ft,zQ⟩:=fG fT;obtain rfl:=hi.aL.inj q q' m m' b h1 zQ hb aH;simp only[jR,ft,Bool.not_true,Bool.false_eq_true]at hk
 .obtain⟨y,hy,rfl⟩:=Option.map_eq_some_iff.1 hx;obtain⟨u,hu,hr⟩:=hi.env.slot i y hy;exact⟨u,hu,hV u y hr⟩
def acJ (fx:List Nat):AV->Prop
 | .d _=>True
 | .ref r _ _=>fx.contains r=true
 | _=>False
def Vf (P:Program) (X:Nat->Prop) (G:YI) (N:Fr) (fx:List Nat) (Q:Exit->St->Prop) (e1:Env) (next:Heap) (nx:Prop):Exit->St->Prop
 | .normal,σ=>nx/\aC (eS fx) X G N σ ⟨fun _=>none,next⟩
 | .ret,σ=>∃ H,aC (eS fx) X G N σ ⟨fun _=>none,H⟩/\Q .ret ⟨e1,H⟩
 | .exit id,σ=>∃ H,aC (eS fx) X G N σ ⟨fun _=>none,H⟩/\Q (.exit id) ⟨e1,H⟩
 | _,_=>False
theorem RV.acJ {X X':Nat->Prop} {l:Nat} {μ ak:Mu} {fx:List Nat} {u:Value} {x:AV} (hs:acJ fx x) (ev:lq l (eS fx) w μ w' ak) (hl:X l) (hX:∀ b,X' b->X b) (hr:RV w X μ u x):RV w' X' ak u x:=by
 cases x with
 | d x=>exact .d (hr.data.mono ev.size fun b hb aH=>by
   have h:=ev.same b hb (fun e=>aH (.inl (e ▸ hl))) fun e=>aH (.inr e)
   exact⟨h.1,fun e=>e.elim (fun e=>aH (.inl (hX b e))) h.2⟩)
 | ref r e j=>
  obtain⟨m,b,hm,hb,rfl⟩:=hr.gL;exact .ref (ev.kept r m hm (by unfold eS;unfold Av.acJ at hs;rw[hs];simp)) hb
 | _=>exact hs.elim
theorem Kb {n s:Nat} {g:Operand} {p:Tmp} {assign body:Code} {Q:Exit->St->Prop} {e0:Env} {H0:Heap} {gf:FuncId} {caps:List AV} (xs:List Value) (it fx:List Nat) (e1:Env) (inv:Nat->Heap) (ok:Nat->Prop) (aee:ok 0)
  (hg:aU G e0 g=some (.fn (.func gf) caps)) (hF:fo P gf) (hp:p < n)
  (hIt:∀ (w:World) (X:Nat->Prop) (μ:Mu) (lb:Array Value),Zf w X μ (Zg it.contains (cT it) (Zi it) H0)->(∀ g x,G g=some x->RD w (XX X μ) (.pointer (some ⟨g,0,none⟩)) x)->lb.size=caps.length->(∀ (i:Nat) (u:Value) (x:AV),lb[i]? = some u->caps[i]? = some x->RV w X μ u (x.tr (cT it) (Zi it)))->DB P gf lb (eT μ) (fun b=>eT μ b\/GB G b) xs w)
  (he1:∀ i x,e1 i=some x->acJ fx x/\∃ y,e0 i=some y/\y.tr (qt it) (o5 it)=x) (hH:Zg (jR it) (qt it) (o5 it) H0=inv 0) (hMv:∀ q,eS fx q->Mv q) (hfx:∀ q,fx.contains q=true->it.contains q=false)
  (Qa:∀ X' l k (hk:k < xs.length),ok k->AW P (eS fx) X' G ⟨n,[],some l⟩ assign (YO (AW P (eS fx) X' G ⟨n,[],some l⟩ body (Vf P X' G ⟨n,[],some l⟩ fx Q e1 (inv (k+1)) (ok (k+1)))) (fun _ _=>False)) ⟨fb e1 p (.d (.v xs[k])),inv k⟩)
  (OU:ok xs.length->Q .normal ⟨e1,inv xs.length⟩):cY P Mv X G n s (.rangeFunc g #[p] assign body) Q ⟨e0,H0⟩:=by
 intro ds w μ a rI hm hi
 obtain⟨lb,nw,rz,oG⟩:∃ lb:Array Value,a.eval g = .func (.func gf) #[] lb/\lb.size=caps.length/\∀ (i:Nat) (u:Value) (x:AV),lb[i]? = some u->caps[i]? = some x->RV w (XD X ds) μ u x:=by
  have h:=hi.eval hg;generalize a.eval g=v at h ⊢
  cases h with
  | fn hn hr=>exact⟨_,rfl,hn,hr⟩
 have YV:=hi.rest it;obtain⟨Bh,hpv⟩:=hi.aL.part it;have hit:=hIt w _ _ lb Bh (fun g x hx=>(hi.eY g x hx).sub fun b=>yL.1) rz fun i u x hu hx=>hpv (oG i u x hu hx);generalize hB:br it.contains μ=n7 at YV Bh hit;have Fl:∀ b,eT n7 b->eT μ b:=fun b h=>mD (hB ▸ h);have acT:∀ b,eT n7 b->b < w.heap.size:=fun b h=>hi.aL.aal (Fl b h);rw[hH]at YV
 have bO:In w (XX (XD X ds) n7) G (br (jR it) μ) ⟨n,ds.map mark,none⟩ a ⟨e1,inv 0⟩:=⟨YV.aL,⟨YV.env.defers,YV.env.size,fun i x hx=>by
  obtain⟨_,y,hy,rfl⟩:=he1 i x hx
  exact YV.env.slot i _ (by dsimp only;rw[hy];rfl)⟩,YV.eY⟩
 clear YV hpv Bh;refine wpIn_rangeFunc fun fn _=>?_;generalize hD:w.heap.size=d at *;obtain⟨rec,qd⟩:∃ rec:LoopState->Option Code->Loop,rec=fun st pe=>{ state:=st,pending:=pe,fn,tmps:=a.tmps,params:=#[p],assign,body,defers:=d }:=⟨_,rfl⟩;obtain⟨W1,pW⟩:∃ W1,(w.alloc (.deferred (some []))).alloc (.loop (rec .ready none))=W1:=⟨_,rfl⟩
 have rK:W1.heap.size=d+2:=by rw[<- pW];simp;omega
 have nv:bT w W1:=by
  rw[<- pW];have h1:=bT.alloc w (.deferred (some []));have h2:=bT.alloc (w.alloc (.deferred (some []))) (.loop (rec .ready none));exact⟨Nat.le_trans h1.size h2.size,h2.os.trans h1.os,h2.tape.trans h1.tape,h2.output.trans h1.output,fun b hb=>(h2.same b (Nat.lt_of_lt_of_le hb h1.size)).trans (h1.same b hb)⟩
 have NT:W1.heap[d+1]? = some (.loop (rec .ready none)):=by
  rw[<- pW];have:=World.alloc_heap_new (w.alloc (.deferred (some []))) (.loop (rec .ready none));rwa [World.size_alloc,hD]at this
 have ay:W1.heap[d]? = some (.deferred (some [])):=by
  rw[<- pW,(bT.alloc (w.alloc (.deferred (some []))) (.loop (rec .ready none))).same d (by simp;omega),<- hD];exact World.alloc_heap_new w _
 let X':Nat->Prop:=fun b=>XX (XD X ds) n7 b\/b=d\/b=d+1
 have Xx:∀ b,XX (XD X ds) n7 b->b < d:=fun b hb=>by have:=bO.aL.fits b hb;omega
 have Y8:In W1 X' G (br (jR it) μ) ⟨n,ds.map mark,none⟩ a ⟨e1,inv 0⟩:=bO.turn (fun b hb=>hb.elim .inl fun hb=>.inr (by omega)) (fun b hb _=>nv.same b hb) nv.size bO.env.defers rfl rfl
 have AB:Ev (eS fx) w μ W1 (br (jR it) μ):=⟨nv.size,nv.os,nv.tape,nv.output,fun b hb hr=>⟨nv.same b hb,fun h=>hr (mD h)⟩,fun q m hq hn=>by
  have O5:fx.contains q=true:=by
   cases h:fx.contains q with
   | true=>rfl
   | false=>exact absurd h hn
  simp only[br,jR,hfx q O5,Bool.not_false,if_true];exact hq⟩
 let At (st:LoopState) (pe:Option Code) (H:Heap) (W:World):Prop:=(∃ ak,In W X' G ak ⟨n,ds.map mark,none⟩ a ⟨e1,H⟩/\Ev (eS fx) w μ W ak)/\W.heap[d+1]? = some (.loop (rec st pe))/\W.heap[d]? = some (.deferred (some []))
 have Ff:∀ st pe H W W',At st pe H W->Grown (eT n7) W W'->At st pe H W':=by
  rintro st pe H W W' ⟨⟨ak,ax,aD⟩,hl,hk⟩ gX;have YJ:d+1 < W.heap.size:=(Array.getElem?_eq_some_iff.1 hl).1
  have Gt:∀ b,d<=b->¬ eT n7 b:=fun b hb h=>by have:=acT b h;omega
  refine⟨⟨ak,ax.turn (fun b hb=>.inl hb) (fun b hb hx=>gX.same b hb fun h=>hx (.inl (.inr h))) gX.size ax.env.defers rfl rfl,⟨Nat.le_trans aD.size gX.size,gX.os.trans aD.os,gX.tape.trans aD.tape,gX.output.trans aD.output,fun b hb hr=>?_,aD.kept⟩⟩,(gX.same _ YJ (Gt _ (by omega))).trans hl,(gX.same _ (by omega) (Gt _ (Nat.le_refl _))).trans hk⟩;have h:=aD.same b hb hr;exact⟨(gX.same b (Nat.lt_of_lt_of_le hb aD.size) fun hh=>hr (Fl b hh)).trans h.1,h.2⟩
 let Jx:World->Prop:=fun W=>∃ (c:Code) (H:Heap),((c=Code.ret/\Q .ret ⟨e1,H⟩)\/∃ id,c=Code.exit id/\Q (.exit id) ⟨e1,H⟩)/\At .done (some c) H W
 have Qb:∀ k (hk:k < xs.length) W,ok k/\At .ready none (inv k) W->YieldAt (wd none) 0 P (d+1) #[xs[k]] W fun e W'=>
   (e = .returned (.bool true)/\(ok (k+1)/\At .ready none (inv (k+1)) W')/\Kept (fun b=>eT n7 b\/GB G b) W W')\/(e = .returned (.bool false)/\Jx W'):=by
  rintro k hk W ⟨PQ,⟨ak,ax,aD⟩,hl,Pp⟩;have YJ:d+1 < W.heap.size:=(Array.getElem?_eq_some_iff.1 hl).1;have hy:=run_yield (P:=P) (args:=#[xs[k]]) hl (by rw[qd];rfl);rw[qd]at hy;refine⟨fn,_,assign,body,hy,roundIn_of_wpIn (F:=wd none) trivial ?_⟩;clear hy
  have O4:(((#[p]:Array Tmp).zip #[xs[k]]).foldl (fun tmps (t,a)=>tmps.setIfInBounds t a) a.tmps)=a.tmps.setIfInBounds p xs[k]:=by simp
  show assign.wpIn (wd (some (d+1))) 0 P _ { tmps:=(((#[p]:Array Tmp).zip #[xs[k]]).foldl (fun tmps (t,a)=>tmps.setIfInBounds t a) a.tmps),defers:=[] } W;rw[O4];have aK:=ax.env.size
  have Pg:In W X' G ak ⟨n,[],some (d+1)⟩ { tmps:=a.tmps.setIfInBounds p xs[k],defers:=[] } ⟨fb e1 p (.d (.v xs[k])),inv k⟩:=⟨ax.aL,⟨rfl,by simpa using aK,fun i x hx=>by
   simp only[fb]at hx;split at hx
   .rename_i e;obtain rfl:=Option.some.inj hx
    have:p < a.tmps.size:=by rw[aK];exact hp
    exact⟨xs[k],by rw[e];simp[this],.d (.v _)⟩
   .rename_i e;obtain⟨u,hu,hr⟩:=ax.env.slot i x hx
    exact⟨u,by simp[Array.getElem?_setIfInBounds,Ne.symm e,hu],hr⟩⟩,ax.eY⟩
  refine wpIn_mono (Qa X' (d+1) k hk PQ W ak _ Pg) fun e a1 w1 ⟨Z8,YK,q1,G4,ou⟩=>?_
  cases e with
  | normal=>
   have iZ:X' (d+1):=.inr (.inr rfl);have FU:X' d:=.inr (.inl rfl);have gk:∀ {W:World} {μ:Mu} {H:Heap} {b:Nat},Zf W X' μ H->X' b->¬ eT μ b:=fun hs hx ⟨r,m,h1,h2⟩=>hs.frame r m _ h1 h2 hx;have iH:=(ou.same _ YJ (gk ax.aL iZ)).1.trans hl;have cQ:=(ou.same d (by omega) (gk ax.aL FU)).1.trans Pp;have AX:d+1 < w1.heap.size:=(Array.getElem?_eq_some_iff.1 iH).1;refine⟨_,run_beginRound iH (by rw[qd]),?_⟩;have BJ:In (w1.putObj (d+1) (.loop { rec .ready none with state:=.busy })) X' G Z8 ⟨n,[],some (d+1)⟩ a1 YK:=G4.turn (fun b hb=>.inl hb) (fun b hb hx=>World.putObj_heap_other fun e=>hx (e ▸ iZ)) (by simp) G4.env.defers rfl rfl;have MH:lq (d+1) (eS fx) W ak (w1.putObj (d+1) (.loop { rec .ready none with state:=.busy })) Z8:=(ou.but _).trans (.put _ _ _ _ _);refine wpIn_mono (q1 _ Z8 a1 BJ) fun e a3 w3 ⟨Xc,dA,q3,QL,sN⟩=>?_;have Gn:w3.heap[d+1]? = some (.loop { rec .ready none with state:=.busy }):=(sN.same (d+1) (by simpa using AX) (gk BJ.aL iZ)).1.trans (World.putObj_heap_same AX);have wV:w3.heap[d]? = some (.deferred (some [])):=(sN.same d (by simp;omega) (gk BJ.aL FU)).1.trans ((World.putObj_heap_other (by omega)).trans cQ);have MI:=MH.trans (sN.but (d+1));have fA:d+1 < w3.heap.size:=(Array.getElem?_eq_some_iff.1 Gn).1
   have fin:∀ (jump:Option Code) (H:Heap),aC (eS fx) X' G ⟨n,[],some (d+1)⟩ dA ⟨fun _=>none,H⟩->∃ w4,(Instr.endRound (d+1) jump).run P w3 = .ok (.bool jump.isNone) w4/\At (if jump.isNone then .ready else .done) jump H w4/\Kept (fun b=>eT n7 b\/GB G b) W w4:=fun jump H himp=>by
    obtain⟨J8,G5,MG⟩:=himp w3 Xc a3 QL;have sO:=(MI.trans (MG.but (d+1))).trans (.put (eS fx) w3 J8 (d+1) (.loop (rec (if jump.isNone then .ready else .done) jump)));refine⟨w3.putObj (d+1) (.loop (rec (if jump.isNone then .ready else .done) jump)),?_,⟨⟨J8,?_,?_⟩,World.putObj_heap_same fA,(World.putObj_heap_other (by omega)).trans wV⟩,sO.size,fun b hb=>?_⟩
    .have:=run_endRound (P:=P) jump Gn;rw[qd]at this ⊢;exact this
    .have GO:=(G5.turn (N':=⟨n,[],some (d+1)⟩) (X':=X') (w':=w3.putObj (d+1) (.loop (rec (if jump.isNone then .ready else .done) jump))) (fun b hb=>.inl hb) (fun b hb hx=>World.putObj_heap_other fun e=>hx (e ▸ iZ)) (by simp) G5.env.defers rfl rfl)
     exact⟨GO.aL,⟨ax.env.defers,ax.env.size,fun i x hx=>by
      obtain⟨u,hu,hr⟩:=ax.env.slot i x hx
      exact⟨u,hu,hr.acJ (he1 i x hx).1 sO iZ fun b hb=>hb⟩⟩,GO.eY⟩
    .exact ((aD.but (d+1)).trans sO).ev (by omega)
    .rcases hb with hb | hb
     .exact (sO.same b (by have:=acT b hb;omega) (fun e=>by have:=acT b hb;omega) (gk ax.aL (.inl (.inr hb)))).1
     .obtain⟨h1,h2⟩:=yA ax.eY hb;exact (sO.same b h2 (fun e=>h1 (.inl (e ▸ iZ))) fun hr=>h1 (.inr hr)).1
   cases e with
   | normal=>
    obtain⟨tM,q3⟩:=q3;obtain⟨w4,h1,h2,h3⟩:=fin none _ q3;exact⟨_,w4,h1,.inl ⟨rfl,⟨tM,h2⟩,h3⟩⟩
   | ret=>
    obtain⟨H,himp,hq⟩:=q3;obtain⟨w4,h1,h2,_⟩:=fin (some .ret) H himp;exact⟨_,w4,h1,.inr ⟨rfl,.ret,H,.inl ⟨rfl,hq⟩,h2⟩⟩
   | exit id=>
    obtain⟨H,himp,hq⟩:=q3;obtain⟨w4,h1,h2,_⟩:=fin (some (.exit id)) H himp;exact⟨_,w4,h1,.inr ⟨rfl,.exit id,H,.inr ⟨id,rfl,hq⟩,h2⟩⟩
   | _=>exact q3.elim
  | _=>exact q1.elim
 refine⟨d+1,[mark d],W1,{ target:=.fn (.func gf) lb,args:=#[.func (.yield (d+1)) #[] #[]] },W1,gf,#[.func (.yield (d+1)) #[] #[]] ++ lb,W1,?_,?_,fun _ _=>trivial,?_,fun e=>(by cases e),JZ (Calls.mono
  (hit (d+1) (fun k W=>ok k/\At .ready none (inv k) W) Jx
   (fun k W W' h gX=>⟨h.1,Ff _ _ _ W W' h.2 gX⟩) (fun W W' ⟨c,H,hq,h⟩ gX=>⟨c,H,hq,Ff _ _ _ W W' h gX⟩) Qb W1 ⟨nv.size,fun b hb=>nv.same b (hb.elim (fun h=>by have:=acT b h;omega) fun h=>by have:=(yA hi.eY h).2;omega)⟩ ⟨aee,⟨_,Y8,AB⟩,NT,ay⟩) ?_)⟩
 .rw[<- pW,qd];have:=run_enterLoop_outer (P:=P) (w:=w) fn a.tmps #[p] assign body;rw[hD]at this;exact this
 .simp only[resolve,nw];simp[go_sem]
 .have:=hF;simp[invoke,go_sem,hF _ W1]
 .rintro e W2 ⟨⟨v,rfl⟩,hJ⟩
  have out:∀ st pe H,st≠.busy->At st pe H W2->∃ w4,(Instr.endLoop (d+1)).run P W2 = .ok pe w4/\∀ q:Exit,Q q ⟨e1,H⟩->Dy Mv X G n s w μ Q q { a with defers:=[mark d] ++ a.defers } w4:=by
   rintro st pe H bA ⟨⟨ak,ax,aD⟩,hl,hk⟩;have YJ:d+1 < W2.heap.size:=(Array.getElem?_eq_some_iff.1 hl).1;refine⟨W2.putObj (d+1) (.loop { rec st pe with state:=.exhausted }),?_,fun q hq=>⟨d :: ds,ak,⟨e1,H⟩,hq,⟨?_,?_,?_⟩,?_,?_⟩⟩
   .have:=run_endLoop (P:=P) hl (by rw[qd];exact bA);rw[qd]at this ⊢;exact this
   .exact List.nodup_cons.2 ⟨fun h=>by have:=(Array.getElem?_eq_some_iff.1 (hm.rZ d h)).1;omega,hm.nodup⟩
   .intro x hx
    rcases List.mem_cons.1 hx with rfl | hx
    .omega
    .exact hm.new x hx
   .intro x hx
    rcases List.mem_cons.1 hx with rfl | hx
    .exact (World.putObj_heap_other (by omega)).trans hk
    .have h0:=(Array.getElem?_eq_some_iff.1 (hm.rZ x hx)).1;have h1:=aD.same x h0 fun ⟨r,m,h1,h2⟩=>hi.aL.frame r m x h1 h2 (.inr hx);exact (World.putObj_heap_other (by omega)).trans (h1.1.trans (hm.rZ x hx))
   .refine ax.turn (fun b hb=>.inl ?_) (fun b hb hx=>World.putObj_heap_other fun e=>hx (.inr (.inr e))) (by simp) ?_ rfl rfl
    .rcases hb with hb | hb
     .exact .inl (.inl (.inl hb))
     .rcases List.mem_cons.1 hb with rfl | hb
      .exact .inr (.inl rfl)
      .exact .inl (.inl (.inr hb))
    .show [mark d] ++ a.defers=(d :: ds).map mark;rw[ax.env.defers];rfl
   .refine (((aD.but (d+1)).trans (.put _ _ _ _ _)).ev (by omega)).weaken fun q m _ hq=>hMv q hq
  rcases hJ with⟨PO,hJ⟩ | ⟨c,H,hq,hJ⟩
  .obtain⟨w4,h1,h2⟩:=out _ _ _ (by simp) hJ;exact⟨none,w4,h1,h2 .normal (OU PO)⟩
  .obtain⟨w4,h1,h2⟩:=out _ _ _ (by simp) hJ;refine⟨some c,w4,h1,?_⟩
   rcases hq with⟨rfl,hq⟩ | ⟨id,rfl,hq⟩
   .exact wpIn_ret (h2 .ret hq)
   .exact wpIn_exit (h2 (.exit id) hq)
end
