/-
  Texts that belong together,in one file: Av33.
-/
import Derived.Test.YtpboiimemmfkiaaGreatDoorRp24
import Derived.RangeFuncSeq
set_option linter.unusedSectionVars false
set_option linter.unusedSimpArgs false
set_option linter.unusedVariables false
namespace Go.Av
def mark (d:Nat):Deferred:={ target:=.collected d,args:=#[] }
structure Marks (s:Nat) (w:World) (ds:List Nat):Prop where
 nodup:ds.Nodup
 new:∀ d∈ds,s≤d
 opn:∀ d∈ds,w.heap[d]? = some (.deferred (some []))
def XD (X:Nat→Prop) (ds:List Nat) (b:Nat):Prop:=X b∨b∈ds
structure EvL (l:Nat) (Mv:Nat→Prop) (w:World) (μ:Mu) (w':World) (μ':Mu):Prop where
 size:w.heap.size≤w'.heap.size
 os:w'.os=w.os
 tape:w'.tape=w.tape
 output:w'.output=w.output
 same:∀ b,b < w.heap.size→b≠l→¬ ran μ b→w'.heap[b]? = w.heap[b]?∧¬ ran μ' b
 kept:∀ r m,μ r=some m→¬ Mv r→μ' r=some m
theorem Ev.but {Mv:Nat→Prop} {w w':World} {μ μ':Mu} (h:Ev Mv w μ w' μ') (l:Nat):EvL l Mv w μ w' μ':=⟨h.size,h.os,h.tape,h.output,fun b hb _ hr=>h.same b hb hr,h.kept⟩
theorem EvL.trans {l:Nat} {Mv:Nat→Prop} {w w1 w2:World} {μ μ1 μ2:Mu} (h:EvL l Mv w μ w1 μ1) (h':EvL l Mv w1 μ1 w2 μ2):EvL l Mv w μ w2 μ2:=
 ⟨Nat.le_trans h.size h'.size,h'.os.trans h.os,h'.tape.trans h.tape,h'.output.trans h.output,fun b hb hl hr=>
  have h1:=h.same b hb hl hr
  have h2:=h'.same b (Nat.lt_of_lt_of_le hb h.size) hl h1.2
  ⟨h2.1.trans h1.1,h2.2⟩,fun r m hm hn=>h'.kept r m (h.kept r m hm hn) hn⟩
theorem EvL.put (Mv:Nat→Prop) (w:World) (μ:Mu) (l:Nat) (o:Obj):EvL l Mv w μ (w.putObj l o) μ:=
 ⟨by simp,rfl,rfl,rfl,fun b _ hl hr=>⟨World.putObj_heap_other hl,hr⟩,fun _ _ h _=>h⟩
theorem EvL.ev {l:Nat} {Mv:Nat→Prop} {w w':World} {μ μ':Mu} (h:EvL l Mv w μ w' μ') (hl:w.heap.size≤l):Ev Mv w μ w' μ':=
 ⟨h.size,h.os,h.tape,h.output,fun b hb hr=>h.same b hb (by omega) hr,h.kept⟩
section
variable {P:Program} {T:Ty} {Mv X:Nat→Prop} {G:Glob} {N:Fr} {w w':World} {μ:Mu} {a:Act} {σ:St}
theorem In.turn {N':Fr} {X':Nat→Prop} {a':Act} (hi:In w X G μ N a σ) (hX:∀ b,X' b→X b∨(w.heap.size≤b∧b < w'.heap.size)) (hsame:∀ b,b < w.heap.size→¬ X b→w'.heap[b]? = w.heap[b]?) (hsz:w.heap.size≤w'.heap.size)
  (hd:a'.defers=N'.ds) (hn:N'.n=N.n) (ht:a'.tmps=a.tmps):In w' X' G μ N' a' σ:=by
 have hD:∀ u d,RD w (XX X μ) u d→RD w' (XX X' μ) u d:=fun u d h=>h.mono hsz fun b hb hb'=>
  ⟨hsame b hb fun e=>hb' (.inl e),fun e=>hb' (e.elim (fun e=>(hX b e).elim .inl fun ⟨h,_⟩=>absurd hb (Nat.not_lt.2 h)) .inr)⟩
 refine ⟨⟨fun r row hr=>?_,hi.sim.dom,hi.sim.inj,fun r m b hr hb hx=>?_,fun b hb=>?_⟩,⟨hd,by rw [ht,hn];exact hi.env.size,fun i x hx=>?_⟩,fun g x hx=>hD _ _ (hi.glob g x hx)⟩
 ·obtain ⟨m,hm,ok⟩:=hi.sim.rows r row hr
  exact ⟨m,hm,ok.lift (fun b hb=>hsame b (ok.blk_lt hb) (hi.sim.frame r m b hm hb)) hD fun _ _ h=>h⟩
 ·have hlt:=hi.sim.blk_lt ⟨r,m,hr,hb⟩
  exact (hX b hx).elim (hi.sim.frame r m b hr hb) fun ⟨h,_⟩=>absurd hlt (Nat.not_lt.2 h)
 ·exact (hX b hb).elim (fun h=>Nat.lt_of_lt_of_le (hi.sim.fits b h) hsz) (·.2)
 ·obtain ⟨u,hu,hr⟩:=hi.env.slot i x hx
  exact ⟨u,by rw [ht];exact hu,hr.lift hD fun _ _ h=>h⟩
theorem Marks.ev {s:Nat} {ds:List Nat} {H:Heap} {μ':Mu} (hm:Marks s w ds) (hs:Sim w (XD X ds) μ H) (ev:Ev Mv w μ w' μ'):Marks s w' ds:=
 ⟨hm.nodup,hm.new,fun d hd=>(ev.same d (Array.getElem?_eq_some_iff.1 (hm.opn d hd)).1 fun ⟨r,m,hr,hb⟩=>hs.frame r m d hr hb (.inr hd)).1.trans (hm.opn d hd)⟩
def After0 (Mv X:Nat→Prop) (G:Glob) (n s:Nat) (w:World) (μ:Mu) (Q:Exit→St→Prop) (e:Exit) (a':Act) (w':World):Prop:=
 ∃ ds μ' σ',Q e σ'∧Marks s w' ds∧In w' (XD X ds) G μ' ⟨n,ds.map mark,none⟩ a' σ'∧Ev Mv w μ w' μ'
def AW0 (P:Program) (Mv X:Nat→Prop) (G:Glob) (n s:Nat) (c:Code) (Q:Exit→St→Prop) (σ:St):Prop:=
 ∀ ds w μ a,s≤w.heap.size→Marks s w ds→In w (XD X ds) G μ ⟨n,ds.map mark,none⟩ a σ→c.wpIn (wd none) 0 P (After0 Mv X G n s w μ Q) a w
theorem AW0_of {n s:Nat} {c:Code} {Q:Exit→St→Prop} (h:∀ X' ds,AW P Mv X' G ⟨n,ds,none⟩ c Q σ):AW0 P Mv X G n s c Q σ:=fun ds w μ a hs hm hi=>
 wpIn_mono (h (XD X ds) _ w μ a hi) fun e a' w' ⟨μ',σ',q,i,ev⟩=>⟨ds,μ',σ',q,hm.ev hi.sim ev,i,ev⟩
theorem AW0.mono {n s:Nat} {c:Code} {Q Q':Exit→St→Prop} (h:AW0 P Mv X G n s c Q σ) (hq:∀ e σ,Q e σ→Q' e σ):AW0 P Mv X G n s c Q' σ:=fun ds w μ a hs hm hi=>
 wpIn_mono (h ds w μ a hs hm hi) fun _ _ _ ⟨ds',μ',σ',q,r⟩=>⟨ds',μ',σ',hq _ _ q,r⟩
theorem AW0.imp {n s:Nat} {c:Code} {Q:Exit→St→Prop} {τ:St} (hi:∀ X' ds,Imp Mv X' G ⟨n,ds,none⟩ σ τ) (h:AW0 P Mv X G n s c Q τ):AW0 P Mv X G n s c Q σ:=fun ds w μ a hs hm hin=>by
 obtain ⟨μ1,h1,e1⟩:=hi (XD X ds) _ w μ a hin
 exact wpIn_mono (h ds w μ1 a hs hm h1) fun e a' w' ⟨ds',μ',σ',q,m,i,ev⟩=>⟨ds',μ',σ',q,m,i,e1.trans ev⟩
theorem AW0_seq {n s:Nat} {x y:Code} {Q:Exit→St→Prop} (h:AW0 P Mv X G n s x (thn (AW0 P Mv X G n s y Q) Q) σ):AW0 P Mv X G n s (.seq x y) Q σ:=fun ds w μ a hs hm hi=>
 wpIn_seq (wpIn_mono (h ds w μ a hs hm hi) fun e a' w' ⟨ds',μ',σ',q,m,i,ev⟩=>by
  cases e with
  | normal=>exact wpIn_mono (q ds' w' μ' a' (Nat.le_trans hs ev.size) m i) fun e2 a2 w2 ⟨ds2,μ2,σ2,q2,m2,i2,ev2⟩=>⟨ds2,μ2,σ2,q2,m2,i2,ev.trans ev2⟩
  | _=>exact ⟨ds',μ',σ',q,m,i,ev⟩)
theorem AW0_block {n s id:Nat} {c:Code} {Q:Exit→St→Prop} (h:AW0 P Mv X G n s c (inb id Q) σ):AW0 P Mv X G n s (.block id c) Q σ:=fun ds w μ a hs hm hi=>
 wpIn_block (wpIn_mono (h ds w μ a hs hm hi) fun e a' w' ⟨ds',μ',σ',q,m,i,ev⟩=>by
  cases e with
  | exit id'=>
   simp only [inb] at q;simp only [Exit.inBlock]
   split
   ·rename_i he;rw [if_pos he] at q;exact ⟨ds',μ',σ',q,m,i,ev⟩
   ·rename_i he;rw [if_neg he] at q;exact ⟨ds',μ',σ',q,m,i,ev⟩
  | _=>exact ⟨ds',μ',σ',q,m,i,ev⟩)
theorem leaves_marks {fn:Func} {tmps:Array Value} {R:Ending→World→Prop}:∀ (ds:List Nat) (w:World),ds.Nodup→(∀ d∈ds,w.heap[d]? = some (.deferred (some [])))→
  (∀ w',w'.heap.size=w.heap.size→w'.os=w.os→w'.tape=w.tape→w'.output=w.output→(∀ b,b ∉ ds→w'.heap[b]? = w.heap[b]?)→∃ v,(results fn tmps).run P w' = .ok v w'∧R (.returned v) w')→
  LeavesInM (wd none) 0 P fn tmps R (ds.map mark) .returning w:=by
 intro ds
 induction ds with
 | nil=>
  intro w _ _ h
  obtain ⟨v,hv,hR⟩:=h w rfl rfl rfl rfl fun _ _=>rfl
  show LeavesIn (wd none) 0 P fn tmps R [] .returning w
  exact ⟨v,hv,hR⟩
 | cons d ds ih=>
  intro w hn ho h
  obtain ⟨hd,hn⟩:=List.nodup_cons.1 hn
  refine ⟨by simp,.inl ⟨d,w.putObj d (.deferred none),rfl,run_takeDeferred (ho d (by simp)),ih _ hn (fun e he=>?_) fun w' h1 h2 h3 h4 h5=>?_⟩⟩
  ·rw [World.putObj_heap_other (fun e':e=d=>hd (by rw [← e'];exact he))];exact ho e (by simp [he])
  ·refine h w' (by simpa using h1) h2 h3 h4 fun b hb=>?_;rw [h5 b (fun e=>hb (by simp [e])),World.putObj_heap_other (fun e=>hb (by simp [e]))]
theorem In.shut {n:Nat} {ds:List Nat} (hi:In w (XD X ds) G μ ⟨n,ds.map mark,none⟩ a σ) (h1:w'.heap.size=w.heap.size) (h5:∀ b,b ∉ ds→w'.heap[b]? = w.heap[b]?):In w' X G μ ⟨n,[],none⟩ { a with defers:=[] } σ:=
 hi.turn (fun b hb=>.inl (.inl hb)) (fun b _ hb=>h5 b fun e=>hb (.inr e)) (by omega) rfl rfl rfl
theorem Ev.shut {s:Nat} {w0:World} {μ0:Mu} {ds:List Nat} (h:Ev Mv w0 μ0 w μ) (hm:Marks s w ds) (hs:w0.heap.size≤s) (h1:w'.heap.size=w.heap.size) (h2:w'.os=w.os) (h3:w'.tape=w.tape) (h4:w'.output=w.output) (h5:∀ b,b ∉ ds→w'.heap[b]? = w.heap[b]?):Ev Mv w0 μ0 w' μ:=
 ⟨by have:=h.size;omega,h2.trans h.os,h3.trans h.tape,h4.trans h.output,fun b hb hr=>by
  have h6:=h.same b hb hr
  exact ⟨(h5 b fun e=>by have:=hm.new b e;omega).trans h6.1,h6.2⟩,h.kept⟩
theorem PureC.of_body0 (hg:Good P T) {g:FuncId} {fn:Func} {c:Code} {rs:List ResultVar} {ds:List D} {y:D} (hf:P.funcs[g]? = some fn) (hb:fn.body=some c) (hn:(fn.name == "runtime.NumGoroutine")=false) (hrs:fn.results=rs.toArray)
  (hN:ds.length≤fn.ntmps) (h:∀ X s,AW0 P (fun _=>True) X G fn.ntmps s c (atEndD T rs y) ⟨args (ds.map .d),hno⟩):PureC P G g ds y:=by
 refine ⟨Fun.of hf hb hn,fun X w μ vs hs hgl hsz hv=>?_⟩
 refine (callsIn_wide (n:=0)).1 (callsIn_of_wp_marks hf hb trivial (wpIn_mono (h X w.heap.size [] w μ _ (Nat.le_refl _) ⟨List.nodup_nil,by simp,by simp⟩
  (In.turn (X:=X) (N:=⟨fn.ntmps,[],none⟩) (a:={ tmps:=vs ++ Array.replicate (fn.ntmps - vs.size) undef,defers:=[] }) ⟨hs,⟨rfl,by simp;simp at hsz;omega,fun i x hx=>?_⟩,hgl⟩ (fun b hb=>.inl (hb.elim id (by simp))) (fun _ _ _=>rfl) (Nat.le_refl _) rfl rfl rfl)) fun e a' w' ⟨ds',μ',σ',q,hm,i,ev⟩=>?_))
 ·simp only [args] at hx
  have hi:i < (ds.map AV.d).length:=(List.getElem?_eq_some_iff.1 hx).1
  have hvi:vs[i]? = some vs[i]:=by rw [Array.getElem?_eq_getElem]
  exact ⟨vs[i],by rw [Array.getElem?_append_left (by omega),hvi],hv i _ x hvi hx⟩
 ·have fin:endD T rs y σ'→LeavesInM (wd none) 0 P fn a'.tmps (fun e w'=>∃ v x H' μ',e = .returned v∧(x = .d y∧H'=hno)∧RV w' X μ' v x∧Sim w' X μ' H'∧Ev (fun _=>True) w μ w' μ') a'.defers .returning w':=fun he=>by
   rw [i.env.defers];refine leaves_marks ds' w' hm.nodup hm.opn fun w2 h1 h2 h3 h4 h5=>?_
   have hi:=i.shut h1 h5
   have hev:=ev.shut hm (Nat.le_refl _) h1 h2 h3 h4 h5
   unfold endD at he
   split at he
   ·rename_i c xs hx
    obtain ⟨hc,he⟩:=he
    split at he
    ·rename_i y' hy
     obtain ⟨v,hv,hr⟩:=results_ok (P:=P) hg hi hrs hx hc
     have hrd:=(asD_ok hi.sim 6 hy hr).le he
     refine ⟨v,hv,v,.d y,hno,fun _=>none,rfl,⟨rfl,rfl⟩,.d (hrd.sub fun b=>XX_none.1),Sim.none hi.sim.fits,hev.size,hev.os,hev.tape,hev.output,fun b hb hr=>⟨(hev.same b hb hr).1,fun ⟨_,_,h,_⟩=>by cases h⟩,fun r m _ hn=>absurd trivial hn⟩
    ·exact he.elim
   ·exact he.elim
  cases e with
  | normal=>exact fin q
  | ret=>exact fin q
  | _=>exact q.elim
structure Grown (B:Nat→Prop) (w w':World):Prop where
 size:w.heap.size≤w'.heap.size
 os:w'.os=w.os
 tape:w'.tape=w.tape
 output:w'.output=w.output
 same:∀ b,b < w.heap.size→¬ B b→w'.heap[b]? = w.heap[b]?
structure Kept (B:Nat→Prop) (w w':World):Prop where
 size:w.heap.size≤w'.heap.size
 same:∀ b,B b→w'.heap[b]? = w.heap[b]?
def GB (G:Glob) (b:Nat):Prop:=∃ x,G b=some x∧((∃ l,x = .ip l)∨∃ cs,x = .tab cs)
theorem GB_of {G:Glob} {w:World} {X:Nat→Prop} (hgl:∀ g x,G g=some x→RD w X (.pointer (some ⟨g,0,none⟩)) x) {b:Nat} (h:GB G b):¬ X b∧b < w.heap.size:=by
 obtain ⟨x,hx,h | h⟩:=h
 ·obtain ⟨l,rfl⟩:=h
  have h1:=hgl _ _ hx
  generalize hy:D.ip l=y at h1;generalize hv:Value.pointer (some ⟨b,0,none⟩)=v at h1
  cases h1<;>cases hy
  rename_i hX hb _ _
  injection hv with hv
  injection hv with hv
  injection hv with hv
  subst hv;exact ⟨hX,hb⟩
 ·obtain ⟨cs,rfl⟩:=h
  have h1:=hgl _ _ hx
  generalize hy:D.tab cs=y at h1;generalize hv:Value.pointer (some ⟨b,0,none⟩)=v at h1
  cases h1<;>cases hy
  rename_i hX hb
  injection hv with hv
  injection hv with hv
  injection hv with hv
  subst hv;exact ⟨hX,(Array.getElem?_eq_some_iff.1 hb).1⟩
def IterB (P:Program) (gf:FuncId) (lb:Array Value) (B C:Nat→Prop) (xs:List Value) (w0:World):Prop:=
 ∀ (l:Nat) (J:Nat→World→Prop) (Jx:World→Prop),(∀ k W W',J k W→Grown B W W'→J k W')→(∀ W W',Jx W→Grown B W W'→Jx W')→
  (∀ k (hk:k < xs.length) W,J k W→YieldAt (wd none) 0 P l #[xs[k]] W fun e W'=>(e = .returned (.bool true)∧J (k+1) W'∧Kept C W W')∨(e = .returned (.bool false)∧Jx W'))→
  ∀ w1,Kept C w0 w1→J 0 w1→Calls P gf (#[.func (.yield l) #[] #[]] ++ lb) w1 fun e W'=>(∃ v,e = .returned v)∧(J xs.length W'∨Jx W')
def notL (it:List Nat) (q:Nat):Bool:=!it.contains q
def notO (it:List Nat) (q off n:Nat):AV:=if it.contains q then .dead else .own q off n
def notF (it:List Nat) (q e j:Nat):AV:=if it.contains q then .dead else .ref q e j
theorem In.rest {e0:Env} {H0:Heap} (it:List Nat) (hi:In w X G μ N a ⟨e0,H0⟩):In w (XX X (mfilt it.contains μ)) G (mfilt (notL it) μ) N a ⟨fun i=>(e0 i).map (AV.tr (notO it) (notF it)),trH (notL it) (notO it) (notF it) H0⟩:=by
 have hXX:∀ b,XX (XX X (mfilt it.contains μ)) (mfilt (notL it) μ) b→XX X μ b:=fun b hb=>hb.elim (fun hb=>hb.elim .inl fun h=>.inr (ran_mfilt h)) fun h=>.inr (ran_mfilt h)
 have hD:∀ u d,RD w (XX X μ) u d→RD w (XX (XX X (mfilt it.contains μ)) (mfilt (notL it) μ)) u d:=fun u d h=>h.sub hXX
 have hm:∀ q m,it.contains q=false→μ q=some m→mfilt (notL it) μ q=some m:=fun q m hk h=>by simp only [mfilt,notL,hk,Bool.not_false,if_true];exact h
 have hV:∀ u x,RV w X μ u x→RV w (XX X (mfilt it.contains μ)) (mfilt (notL it) μ) u (x.tr (notO it) (notF it)):=fun u x=>RV.tr3 hD (fun u r off n h=>by
   unfold notO
   split
   ·exact .dead u
   ·rename_i hk
    obtain ⟨m,h1,h2⟩:=h.own_inv
    exact .own (hm r m (by simpa using hk) h1) h2) (fun u r e j h=>by
   unfold notF
   split
   ·exact .dead u
   ·rename_i hk
    obtain ⟨m,b,h1,h2,rfl⟩:=h.ref_inv
    exact .ref (hm r m (by simpa using hk) h1) h2)
 refine ⟨⟨fun r row hr=>?_,fun r m hr=>?_,fun q q' m1 m2 b h1 h2 hb1 hb2=>hi.sim.inj q q' m1 m2 b (mfilt_some h1).2 (mfilt_some h2).2 hb1 hb2,fun q m b hq hb hX=>?_,fun b hb=>hb.elim (hi.sim.fits b) fun h=>hi.sim.blk_lt (ran_mfilt h)⟩,⟨hi.env.defers,hi.env.size,fun i x hx=>?_⟩,fun g x hx=>hD _ _ (hi.glob g x hx)⟩
 ·dsimp only [trH] at hr
  split at hr
  ·rename_i hk
   obtain ⟨row0,h0,rfl⟩:=Option.map_eq_some_iff.1 hr
   obtain ⟨m,h1,ok⟩:=hi.sim.rows r row0 h0
   exact ⟨m,hm r m (by simpa [notL] using hk) h1,ok.tr3 (fun _ _=>rfl) hD hV⟩
  ·cases hr
 ·obtain ⟨hk,h1⟩:=mfilt_some hr
  obtain ⟨row,h0⟩:=hi.sim.dom r m h1
  exact ⟨row.tr (notO it) (notF it),by dsimp only [trH];rw [if_pos hk];dsimp only at h0;rw [h0];rfl⟩
 ·obtain ⟨hk,h1⟩:=mfilt_some hq
  rcases hX with h | ⟨q',m',hq',hb'⟩
  ·exact hi.sim.frame q m b h1 hb h
  ·obtain ⟨hk',h1'⟩:=mfilt_some hq'
   obtain rfl:=hi.sim.inj q q' m m' b h1 h1' hb hb'
   simp only [notL,hk',Bool.not_true,Bool.false_eq_true] at hk
 ·obtain ⟨y,hy,rfl⟩:=Option.map_eq_some_iff.1 hx
  obtain ⟨u,hu,hr⟩:=hi.env.slot i y hy
  exact ⟨u,hu,hV u y hr⟩
def stab (fx:List Nat):AV→Prop
 | .d _=>True
 | .ref r _ _=>fx.contains r=true
 | _=>False
def roundQ (P:Program) (X:Nat→Prop) (G:Glob) (N:Fr) (fx:List Nat) (Q:Exit→St→Prop) (e1:Env) (next:Heap) (nx:Prop):Exit→St→Prop
 | .normal,σ=>nx∧Imp (notIn fx) X G N σ ⟨fun _=>none,next⟩
 | .ret,σ=>∃ H,Imp (notIn fx) X G N σ ⟨fun _=>none,H⟩∧Q .ret ⟨e1,H⟩
 | .exit id,σ=>∃ H,Imp (notIn fx) X G N σ ⟨fun _=>none,H⟩∧Q (.exit id) ⟨e1,H⟩
 | _,_=>False
theorem RV.stab {X X':Nat→Prop} {l:Nat} {μ μ':Mu} {fx:List Nat} {u:Value} {x:AV} (hs:stab fx x) (ev:EvL l (notIn fx) w μ w' μ') (hl:X l) (hX:∀ b,X' b→X b) (hr:RV w X μ u x):RV w' X' μ' u x:=by
 cases x with
 | d x=>exact .d (hr.data.mono ev.size fun b hb hb'=>by
   have h:=ev.same b hb (fun e=>hb' (.inl (e ▸ hl))) fun e=>hb' (.inr e)
   exact ⟨h.1,fun e=>e.elim (fun e=>hb' (.inl (hX b e))) h.2⟩)
 | ref r e j=>
  obtain ⟨m,b,hm,hb,rfl⟩:=hr.ref_inv
  exact .ref (ev.kept r m hm (by unfold notIn;unfold Av.stab at hs;rw [hs];simp)) hb
 | _=>exact hs.elim
set_option maxHeartbeats 1000000 in
theorem AW0_rangeFunc {n s:Nat} {g:Operand} {p:Tmp} {assign body:Code} {Q:Exit→St→Prop} {e0:Env} {H0:Heap} {gf:FuncId} {caps:List AV} (xs:List Value) (it fx:List Nat) (e1:Env) (inv:Nat→Heap) (ok:Nat→Prop) (hok0:ok 0)
  (hg:aeval G e0 g=some (.fn (.func gf) caps)) (hF:Fun P gf) (hp:p < n)
  (hIt:∀ (w:World) (X:Nat→Prop) (μ:Mu) (lb:Array Value),Sim w X μ (trH it.contains (onlyO it) (onlyF it) H0)→(∀ g x,G g=some x→RD w (XX X μ) (.pointer (some ⟨g,0,none⟩)) x)→lb.size=caps.length→(∀ (i:Nat) (u:Value) (x:AV),lb[i]? = some u→caps[i]? = some x→RV w X μ u (x.tr (onlyO it) (onlyF it)))→IterB P gf lb (ran μ) (fun b=>ran μ b∨GB G b) xs w)
  (he1:∀ i x,e1 i=some x→stab fx x∧∃ y,e0 i=some y∧y.tr (notO it) (notF it)=x) (hH:trH (notL it) (notO it) (notF it) H0=inv 0) (hMv:∀ q,notIn fx q→Mv q) (hfx:∀ q,fx.contains q=true→it.contains q=false)
  (hround:∀ X' l k (hk:k < xs.length),ok k→AW P (notIn fx) X' G ⟨n,[],some l⟩ assign (thn (AW P (notIn fx) X' G ⟨n,[],some l⟩ body (roundQ P X' G ⟨n,[],some l⟩ fx Q e1 (inv (k+1)) (ok (k+1)))) (fun _ _=>False)) ⟨upd e1 p (.d (.v xs[k])),inv k⟩)
  (hdone:ok xs.length→Q .normal ⟨e1,inv xs.length⟩):AW0 P Mv X G n s (.rangeFunc g #[p] assign body) Q ⟨e0,H0⟩:=by
 intro ds w μ a hsw hm hi
 obtain ⟨lb,hgv,hlb,hlr⟩:∃ lb:Array Value,a.eval g = .func (.func gf) #[] lb∧lb.size=caps.length∧∀ (i:Nat) (u:Value) (x:AV),lb[i]? = some u→caps[i]? = some x→RV w (XD X ds) μ u x:=by
  have h:=hi.eval hg
  generalize a.eval g=v at h ⊢
  cases h with
  | fn hn hr=>exact ⟨_,rfl,hn,hr⟩
 have hrest:=hi.rest it
 obtain ⟨hpart,hpv⟩:=hi.sim.part it
 have hit:=hIt w _ _ lb hpart (fun g x hx=>(hi.glob g x hx).sub fun b=>XX_part.1) hlb fun i u x hu hx=>hpv (hlr i u x hu hx)
 generalize hB:mfilt it.contains μ=μi at hrest hpart hit
 have hBran:∀ b,ran μi b→ran μ b:=fun b h=>ran_mfilt (hB ▸ h)
 have hBlt:∀ b,ran μi b→b < w.heap.size:=fun b h=>hi.sim.blk_lt (hBran b h)
 rw [hH] at hrest
 have hi1:In w (XX (XD X ds) μi) G (mfilt (notL it) μ) ⟨n,ds.map mark,none⟩ a ⟨e1,inv 0⟩:=⟨hrest.sim,⟨hrest.env.defers,hrest.env.size,fun i x hx=>by
  obtain ⟨_,y,hy,rfl⟩:=he1 i x hx
  exact hrest.env.slot i _ (by dsimp only;rw [hy];rfl)⟩,hrest.glob⟩
 clear hrest hpv hpart;refine wpIn_rangeFunc fun fn _=>?_;generalize hD:w.heap.size=d at *
 obtain ⟨rec,hrec⟩:∃ rec:LoopState→Option Code→Loop,rec=fun st pe=>{ state:=st,pending:=pe,fn,tmps:=a.tmps,params:=#[p],assign,body,defers:=d }:=⟨_,rfl⟩
 obtain ⟨W1,hW1⟩:∃ W1,(w.alloc (.deferred (some []))).alloc (.loop (rec .ready none))=W1:=⟨_,rfl⟩
 have hz1:W1.heap.size=d+2:=by rw [← hW1];simp;omega
 have hg1:Grew w W1:=by
  rw [← hW1]
  have h1:=Grew.alloc w (.deferred (some []))
  have h2:=Grew.alloc (w.alloc (.deferred (some []))) (.loop (rec .ready none))
  exact ⟨Nat.le_trans h1.size h2.size,h2.os.trans h1.os,h2.tape.trans h1.tape,h2.output.trans h1.output,fun b hb=>(h2.same b (Nat.lt_of_lt_of_le hb h1.size)).trans (h1.same b hb)⟩
 have hL1:W1.heap[d+1]? = some (.loop (rec .ready none)):=by
  rw [← hW1];have:=World.alloc_heap_new (w.alloc (.deferred (some []))) (.loop (rec .ready none));rwa [World.size_alloc,hD] at this
 have hK1:W1.heap[d]? = some (.deferred (some [])):=by
  rw [← hW1,(Grew.alloc (w.alloc (.deferred (some []))) (.loop (rec .ready none))).same d (by simp;omega),← hD];exact World.alloc_heap_new w _
 let X':Nat→Prop:=fun b=>XX (XD X ds) μi b∨b=d∨b=d+1
 have hX'lt:∀ b,XX (XD X ds) μi b→b < d:=fun b hb=>by have:=hi1.sim.fits b hb;omega
 have hi2:In W1 X' G (mfilt (notL it) μ) ⟨n,ds.map mark,none⟩ a ⟨e1,inv 0⟩:=hi1.turn (fun b hb=>hb.elim .inl fun hb=>.inr (by omega)) (fun b hb _=>hg1.same b hb) hg1.size hi1.env.defers rfl rfl
 have hev1:Ev (notIn fx) w μ W1 (mfilt (notL it) μ):=⟨hg1.size,hg1.os,hg1.tape,hg1.output,fun b hb hr=>⟨hg1.same b hb,fun h=>hr (ran_mfilt h)⟩,fun q m hq hn=>by
  have hfq:fx.contains q=true:=by
   cases h:fx.contains q with
   | true=>rfl
   | false=>exact absurd h hn
  simp only [mfilt,notL,hfx q hfq,Bool.not_false,if_true];exact hq⟩
 let At (st:LoopState) (pe:Option Code) (H:Heap) (W:World):Prop:=(∃ μ',In W X' G μ' ⟨n,ds.map mark,none⟩ a ⟨e1,H⟩∧Ev (notIn fx) w μ W μ')∧W.heap[d+1]? = some (.loop (rec st pe))∧W.heap[d]? = some (.deferred (some []))
 have hAtG:∀ st pe H W W',At st pe H W→Grown (ran μi) W W'→At st pe H W':=by
  rintro st pe H W W' ⟨⟨μ',hin,hev⟩,hl,hk⟩ hgr
  have hlt:d+1 < W.heap.size:=(Array.getElem?_eq_some_iff.1 hl).1
  have hnB:∀ b,d≤b→¬ ran μi b:=fun b hb h=>by have:=hBlt b h;omega
  refine ⟨⟨μ',hin.turn (fun b hb=>.inl hb) (fun b hb hx=>hgr.same b hb fun h=>hx (.inl (.inr h))) hgr.size hin.env.defers rfl rfl,⟨Nat.le_trans hev.size hgr.size,hgr.os.trans hev.os,hgr.tape.trans hev.tape,hgr.output.trans hev.output,fun b hb hr=>?_,hev.kept⟩⟩,(hgr.same _ hlt (hnB _ (by omega))).trans hl,(hgr.same _ (by omega) (hnB _ (Nat.le_refl _))).trans hk⟩
  have h:=hev.same b hb hr
  exact ⟨(hgr.same b (Nat.lt_of_lt_of_le hb hev.size) fun hh=>hr (hBran b hh)).trans h.1,h.2⟩
 let Jx:World→Prop:=fun W=>∃ (c:Code) (H:Heap),((c=Code.ret∧Q .ret ⟨e1,H⟩)∨∃ id,c=Code.exit id∧Q (.exit id) ⟨e1,H⟩)∧At .done (some c) H W
 have hround':∀ k (hk:k < xs.length) W,ok k∧At .ready none (inv k) W→YieldAt (wd none) 0 P (d+1) #[xs[k]] W fun e W'=>
   (e = .returned (.bool true)∧(ok (k+1)∧At .ready none (inv (k+1)) W')∧Kept (fun b=>ran μi b∨GB G b) W W')∨(e = .returned (.bool false)∧Jx W'):=by
  rintro k hk W ⟨hokk,⟨μ',hin,hev⟩,hl,hkD⟩
  have hlt:d+1 < W.heap.size:=(Array.getElem?_eq_some_iff.1 hl).1
  have hy:=run_yield (P:=P) (args:=#[xs[k]]) hl (by rw [hrec];rfl)
  rw [hrec] at hy;refine ⟨fn,_,assign,body,hy,roundIn_of_wpIn (F:=wd none) trivial ?_⟩;clear hy
  have hfold:(((#[p]:Array Tmp).zip #[xs[k]]).foldl (fun tmps (t,a)=>tmps.setIfInBounds t a) a.tmps)=a.tmps.setIfInBounds p xs[k]:=by simp
  show assign.wpIn (wd (some (d+1))) 0 P _ { tmps:=(((#[p]:Array Tmp).zip #[xs[k]]).foldl (fun tmps (t,a)=>tmps.setIfInBounds t a) a.tmps),defers:=[] } W
  rw [hfold]
  have hsz:=hin.env.size
  have hinr:In W X' G μ' ⟨n,[],some (d+1)⟩ { tmps:=a.tmps.setIfInBounds p xs[k],defers:=[] } ⟨upd e1 p (.d (.v xs[k])),inv k⟩:=⟨hin.sim,⟨rfl,by simpa using hsz,fun i x hx=>by
   simp only [upd] at hx
   split at hx
   ·rename_i e
    obtain rfl:=Option.some.inj hx
    have:p < a.tmps.size:=by rw [hsz];exact hp
    exact ⟨xs[k],by rw [e];simp [this],.d (.v _)⟩
   ·rename_i e
    obtain ⟨u,hu,hr⟩:=hin.env.slot i x hx
    exact ⟨u,by simp [Array.getElem?_setIfInBounds,Ne.symm e,hu],hr⟩⟩,hin.glob⟩
  refine wpIn_mono (hround X' (d+1) k hk hokk W μ' _ hinr) fun e a1 w1 ⟨μ1,σ1,q1,in1,ev1⟩=>?_
  cases e with
  | normal=>
   have hXl:X' (d+1):=.inr (.inr rfl)
   have hXd:X' d:=.inr (.inl rfl)
   have hnr:∀ {W:World} {μ:Mu} {H:Heap} {b:Nat},Sim W X' μ H→X' b→¬ ran μ b:=fun hs hx ⟨r,m,h1,h2⟩=>hs.frame r m _ h1 h2 hx
   have hl1:=(ev1.same _ hlt (hnr hin.sim hXl)).1.trans hl
   have hk1:=(ev1.same d (by omega) (hnr hin.sim hXd)).1.trans hkD
   have hlt1:d+1 < w1.heap.size:=(Array.getElem?_eq_some_iff.1 hl1).1
   refine ⟨_,run_beginRound hl1 (by rw [hrec]),?_⟩
   have in2:In (w1.putObj (d+1) (.loop { rec .ready none with state:=.busy })) X' G μ1 ⟨n,[],some (d+1)⟩ a1 σ1:=in1.turn (fun b hb=>.inl hb) (fun b hb hx=>World.putObj_heap_other fun e=>hx (e ▸ hXl)) (by simp) in1.env.defers rfl rfl
   have evb:EvL (d+1) (notIn fx) W μ' (w1.putObj (d+1) (.loop { rec .ready none with state:=.busy })) μ1:=(ev1.but _).trans (.put _ _ _ _ _)
   refine wpIn_mono (q1 _ μ1 a1 in2) fun e a3 w3 ⟨μ3,σ3,q3,in3,ev3⟩=>?_
   have hl3:w3.heap[d+1]? = some (.loop { rec .ready none with state:=.busy }):=(ev3.same (d+1) (by simpa using hlt1) (hnr in2.sim hXl)).1.trans (World.putObj_heap_same hlt1)
   have hk3:w3.heap[d]? = some (.deferred (some [])):=(ev3.same d (by simp;omega) (hnr in2.sim hXd)).1.trans ((World.putObj_heap_other (by omega)).trans hk1)
   have evc:=evb.trans (ev3.but (d+1))
   have hlt3:d+1 < w3.heap.size:=(Array.getElem?_eq_some_iff.1 hl3).1
   have fin:∀ (jump:Option Code) (H:Heap),Imp (notIn fx) X' G ⟨n,[],some (d+1)⟩ σ3 ⟨fun _=>none,H⟩→∃ w4,(Instr.endRound (d+1) jump).run P w3 = .ok (.bool jump.isNone) w4∧At (if jump.isNone then .ready else .done) jump H w4∧Kept (fun b=>ran μi b∨GB G b) W w4:=fun jump H himp=>by
    obtain ⟨μ4,in4,ev4⟩:=himp w3 μ3 a3 in3
    have evd:=(evc.trans (ev4.but (d+1))).trans (.put (notIn fx) w3 μ4 (d+1) (.loop (rec (if jump.isNone then .ready else .done) jump)))
    refine ⟨w3.putObj (d+1) (.loop (rec (if jump.isNone then .ready else .done) jump)),?_,⟨⟨μ4,?_,?_⟩,World.putObj_heap_same hlt3,(World.putObj_heap_other (by omega)).trans hk3⟩,evd.size,fun b hb=>?_⟩
    ·have:=run_endRound (P:=P) jump hl3
     rw [hrec] at this ⊢;exact this
    ·have hsim:=(in4.turn (N':=⟨n,[],some (d+1)⟩) (X':=X') (w':=w3.putObj (d+1) (.loop (rec (if jump.isNone then .ready else .done) jump))) (fun b hb=>.inl hb) (fun b hb hx=>World.putObj_heap_other fun e=>hx (e ▸ hXl)) (by simp) in4.env.defers rfl rfl)
     exact ⟨hsim.sim,⟨hin.env.defers,hin.env.size,fun i x hx=>by
      obtain ⟨u,hu,hr⟩:=hin.env.slot i x hx
      exact ⟨u,hu,hr.stab (he1 i x hx).1 evd hXl fun b hb=>hb⟩⟩,hsim.glob⟩
    ·exact ((hev.but (d+1)).trans evd).ev (by omega)
    ·rcases hb with hb | hb
     ·exact (evd.same b (by have:=hBlt b hb;omega) (fun e=>by have:=hBlt b hb;omega) (hnr hin.sim (.inl (.inr hb)))).1
     ·obtain ⟨h1,h2⟩:=GB_of hin.glob hb
      exact (evd.same b h2 (fun e=>h1 (.inl (e ▸ hXl))) fun hr=>h1 (.inr hr)).1
   cases e with
   | normal=>
    obtain ⟨hnx,q3⟩:=q3
    obtain ⟨w4,h1,h2,h3⟩:=fin none _ q3
    exact ⟨_,w4,h1,.inl ⟨rfl,⟨hnx,h2⟩,h3⟩⟩
   | ret=>
    obtain ⟨H,himp,hq⟩:=q3
    obtain ⟨w4,h1,h2,_⟩:=fin (some .ret) H himp
    exact ⟨_,w4,h1,.inr ⟨rfl,.ret,H,.inl ⟨rfl,hq⟩,h2⟩⟩
   | exit id=>
    obtain ⟨H,himp,hq⟩:=q3
    obtain ⟨w4,h1,h2,_⟩:=fin (some (.exit id)) H himp
    exact ⟨_,w4,h1,.inr ⟨rfl,.exit id,H,.inr ⟨id,rfl,hq⟩,h2⟩⟩
   | _=>exact q3.elim
  | _=>exact q1.elim
 refine ⟨d+1,[mark d],W1,{ target:=.fn (.func gf) lb,args:=#[.func (.yield (d+1)) #[] #[]] },W1,gf,#[.func (.yield (d+1)) #[] #[]] ++ lb,W1,?_,?_,fun _ _=>trivial,?_,fun e=>(by cases e),wd_calls (Calls.mono
  (hit (d+1) (fun k W=>ok k∧At .ready none (inv k) W) Jx
   (fun k W W' h hgr=>⟨h.1,hAtG _ _ _ W W' h.2 hgr⟩) (fun W W' ⟨c,H,hq,h⟩ hgr=>⟨c,H,hq,hAtG _ _ _ W W' h hgr⟩) hround' W1 ⟨hg1.size,fun b hb=>hg1.same b (hb.elim (fun h=>by have:=hBlt b h;omega) fun h=>by have:=(GB_of hi.glob h).2;omega)⟩ ⟨hok0,⟨_,hi2,hev1⟩,hL1,hK1⟩) ?_)⟩
 ·rw [← hW1,hrec]
  have:=run_enterLoop_outer (P:=P) (w:=w) fn a.tmps #[p] assign body
  rw [hD] at this;exact this
 ·simp only [resolve,hgv];simp [go_sem]
 ·have:=hF
  simp [invoke,go_sem,hF _ W1]
 ·rintro e W2 ⟨⟨v,rfl⟩,hJ⟩
  have out:∀ st pe H,st≠.busy→At st pe H W2→∃ w4,(Instr.endLoop (d+1)).run P W2 = .ok pe w4∧∀ q:Exit,Q q ⟨e1,H⟩→After0 Mv X G n s w μ Q q { a with defers:=[mark d] ++ a.defers } w4:=by
   rintro st pe H hst ⟨⟨μ',hin,hev⟩,hl,hk⟩
   have hlt:d+1 < W2.heap.size:=(Array.getElem?_eq_some_iff.1 hl).1
   refine ⟨W2.putObj (d+1) (.loop { rec st pe with state:=.exhausted }),?_,fun q hq=>⟨d :: ds,μ',⟨e1,H⟩,hq,⟨?_,?_,?_⟩,?_,?_⟩⟩
   ·have:=run_endLoop (P:=P) hl (by rw [hrec];exact hst)
    rw [hrec] at this ⊢;exact this
   ·exact List.nodup_cons.2 ⟨fun h=>by have:=(Array.getElem?_eq_some_iff.1 (hm.opn d h)).1;omega,hm.nodup⟩
   ·intro x hx
    rcases List.mem_cons.1 hx with rfl | hx
    ·omega
    ·exact hm.new x hx
   ·intro x hx
    rcases List.mem_cons.1 hx with rfl | hx
    ·exact (World.putObj_heap_other (by omega)).trans hk
    ·have h0:=(Array.getElem?_eq_some_iff.1 (hm.opn x hx)).1
     have h1:=hev.same x h0 fun ⟨r,m,h1,h2⟩=>hi.sim.frame r m x h1 h2 (.inr hx)
     exact (World.putObj_heap_other (by omega)).trans (h1.1.trans (hm.opn x hx))
   ·refine hin.turn (fun b hb=>.inl ?_) (fun b hb hx=>World.putObj_heap_other fun e=>hx (.inr (.inr e))) (by simp) ?_ rfl rfl
    ·rcases hb with hb | hb
     ·exact .inl (.inl (.inl hb))
     ·rcases List.mem_cons.1 hb with rfl | hb
      ·exact .inr (.inl rfl)
      ·exact .inl (.inl (.inr hb))
    ·show [mark d] ++ a.defers=(d :: ds).map mark
     rw [hin.env.defers];rfl
   ·refine (((hev.but (d+1)).trans (.put _ _ _ _ _)).ev (by omega)).weaken fun q m _ hq=>hMv q hq
  rcases hJ with ⟨hokE,hJ⟩ | ⟨c,H,hq,hJ⟩
  ·obtain ⟨w4,h1,h2⟩:=out _ _ _ (by simp) hJ
   exact ⟨none,w4,h1,h2 .normal (hdone hokE)⟩
  ·obtain ⟨w4,h1,h2⟩:=out _ _ _ (by simp) hJ
   refine ⟨some c,w4,h1,?_⟩
   rcases hq with ⟨rfl,hq⟩ | ⟨id,rfl,hq⟩
   ·exact wpIn_ret (h2 .ret hq)
   ·exact wpIn_exit (h2 (.exit id) hq)
end
end Go.Av
