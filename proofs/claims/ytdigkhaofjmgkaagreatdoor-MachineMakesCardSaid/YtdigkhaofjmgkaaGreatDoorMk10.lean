/-
  Texts that belong together,in one file: Av31,Av32,Av40.
-/
import Derived.Test.YtdigkhaofjmgkaaGreatDoorMk9
import Derived.Scope
set_option linter.unusedSectionVars false
set_option linter.unusedSimpArgs false
set_option linter.unusedVariables false
namespace Go.Av
def I9 (Q:Exit->St->Prop):Exit->St->Prop
 | .goto _,_=>False
 | e,σ=>Q e σ
section
variable {P:Program} {Mv X:Nat->Prop} {G:ao} {N:Fr} {σ:St}
theorem Fi {n:Nat} {ds:List Deferred} {c:Code} {Q:Exit->St->Prop} (h:AW P Mv X G ⟨n,ds,none⟩ c (I9 Q) σ):AW P Mv X G ⟨n,ds,none⟩ (.scope c) Q σ:=fun w μ a hi=>
 (wpIn_wide (n:=0)).2 <| wp_scope_straight (wp_mono ((wpIn_wide (n:=0)).1 (h w μ a hi)) fun e a' w' ⟨au,ar,q,i,ev⟩=>by
  cases e with
  | goto l=>exact q.elim
  | _=>exact ⟨au,ar,q,i,ev⟩)
end
attribute [simp] I9
end Go.Av
namespace Go.Av
section
variable {P:Program} {T:Ty} {Mv X:Nat->Prop} {G:ao} {N:Fr} {w:World} {μ:Mu} {a:Act} {σ:St}
def acB (mvd:List Nat) (e:Env):Prop:=∀ r∈mvd,cF r e=e
def abm (mvd:List Nat) (x:AV):Prop:=∀ r∈mvd,x.kill r=x
theorem acB.put {mvd:List Nat} {e:Env} (h:acB mvd e) {x:AV} (hx:abm mvd x) (d:Option Tmp):acB mvd (Z2 e d x):=fun r hr=>by rw [y3,h r hr,hx r hr]
theorem abm.d (mvd:List Nat) (y:D):abm mvd (.d y):=fun _ _=>rfl
theorem RV.off {w':World} {au:Mu} {mvd:List Nat} (aG:Ev (fun r=>r∈mvd) w μ w' au):∀ {v:Value} {x:AV},RV w X μ v x->abm mvd x->RV w' X au v x:=by
 intro v x hr;have ne:∀ {q:Nat},(∀ r∈mvd,¬ q=r)->∀ m,μ q=some m->au q=some m:=fun h m hm=>aG.kept _ m hm fun jz=>h _ jz rfl
 have sub:∀ {l:List AV},(∀ r∈mvd,AV.kill.go r l=l)->∀ (j:Nat) (c:AV),l[j]? = some c->abm mvd c:=fun {l} h j c hc r hr=>by
  have:=h r hr;rw [AV.go_eq] at this;have h2:=congrArg (fun l:List AV=>l[j]?) this;simp only [List.getElem?_map,hc,Option.map_some,Option.some.injEq] at h2;exact h2
 induction hr with
 | d h'=>intro _;exact .d (h'.ev aG)
 | own hm h'=>
  intro ho;refine .own (ne (fun r hr e=>?_) _ hm) h';have:=ho r hr;simp [AV.kill,e] at this
 | ref hm hb=>
  intro ho;refine .ref (ne (fun r hr e=>?_) _ hm) hb;have:=ho r hr;simp [AV.kill,e] at this
 | agg hn _ ih=>
  intro ho;exact .agg hn fun j u c hu hc=>ih j u c hu hc (sub (fun r hr=>by have:=ho r hr;simpa [AV.kill] using this) j c hc)
 | Z4 hn _ ih=>
  intro ho;exact .Z4 hn fun j u c hu hc=>ih j u c hu hc (sub (fun r hr=>by have:=ho r hr;simpa [AV.kill] using this) j c hc)
 | br _ ih=>intro ho;exact .br (ih fun r hr=>by have:=ho r hr;simpa [AV.kill] using this)
 | bm _ ih=>intro ho;exact .bm (ih fun r hr=>by have:=ho r hr;simpa [AV.kill] using this)
 | fn hn _ ih=>
  intro ho;exact .fn hn fun j u c hu hc=>ih j u c hu hc (sub (fun r hr=>by have:=ho r hr;simpa [AV.kill] using this) j c hc)
 | mp hm hb=>
  intro ho;refine .mp (ne (fun r hr e=>?_) _ hm) hb;have:=ho r hr;simp [AV.kill,e] at this
 | dead u=>intro _;exact .dead u
def HC (P:Program) (G:ao) (mvd:List Nat) (g:FuncId) (xs:List AV) (H:Heap) (y:AV) (H2:Heap):Prop:=∀ (Mv X:Nat->Prop) (N:Fr) (e:Env),(∀ r∈mvd,Mv r)->acB mvd e->ab2 P Mv X G N g xs ⟨e,H⟩ fun x ar=>x=y/\ar=⟨e,H2⟩
theorem HC.of {mvd:List Nat} {g:FuncId} {xs:List AV} {H H2:Heap} {y:AV} (h:∀ (X:Nat->Prop) (N:Fr) (e:Env),ab2 P (fun r=>r∈mvd) X G N g xs ⟨e,H⟩ fun x ar=>x=y/\ar.H=H2):HC P G mvd g xs H y H2:=fun Mv X N e hmv e7=>by
 refine ⟨(h X N e).1,fun w μ a vs hi hn hv=>((h X N e).2 w μ a vs hi hn hv).mono fun e' w' ⟨v,x,ar,au,he,⟨we,hH⟩,aC,hr,aG⟩=>?_⟩;subst hH;refine ⟨v,x,⟨e,ar.H⟩,au,he,⟨we,rfl⟩,⟨aC.aS,⟨hi.env.defers,hi.env.size,fun i z hz=>?_⟩,aC.fV⟩,hr,aG.weaken fun r _ _ h=>hmv r h⟩;obtain ⟨u,hu,hru⟩:=hi.env.slot i z hz;refine ⟨u,hu,RV.off aG hru fun r hr=>?_⟩;have h1:=congrFun (e7 r hr) i;replace hz:e i=some z:=hz;simpa [cF,hz] using h1
theorem HC.mc {mvd:List Nat} {fx:List Nat} {g:FuncId} {jJ xs:List AV} {H:Heap} {bJ dT:List (Nat×Row)} {y:AV} (hc:MC P G fx g xs (ZX bJ) y (ZX dT)) (hx:jJ.map (AV.tr (du (bJ.map (·.1))) (dt (bJ.map (·.1))))=xs)
  (hH:∀ p∈bJ,(H p.1).map (Row.tr (du (bJ.map (·.1))) (dt (bJ.map (·.1))))=ZX bJ p.1) (hd:∀ p∈dT,(bJ.map (·.1)).contains p.1=true\/H p.1=none) (hm:∀ r∈bJ.map (·.1),fx.contains r=false->r∈mvd) :
  HC P G mvd g jJ H y (jv (ZX dT) (trH (dP (bJ.map (·.1))) (iQ (bJ.map (·.1)) fx) (iP (bJ.map (·.1)) fx) H)):=.of fun X N e=>by
 refine ab2.zg hc hx (funext (zT hH)).symm (fun q hq=>?_) (fun r hr=>hm r (List.contains_iff_mem.1 hr)) ⟨rfl,rfl⟩
 have jz:∀ l:List (Nat×Row),(ZX l q).isSome=true->∃ p∈l,p.1=q:=by
  intro l
  induction l with
  | nil=>intro h;simp [ZX] at h
  | cons p l ih=>
   intro h;simp only [ZX,List.lookup] at h
   cases jB:(q == p.1) with
   | true=>exact ⟨p,by simp,by simpa using (beq_iff_eq.1 jB).symm⟩
   | false=>
    rw [jB] at h;obtain ⟨p',h1,h2⟩:=ih h;exact ⟨p',by simp [h1],h2⟩
 obtain ⟨p,hp,rfl⟩:=jz dT hq;exact hd p hp
variable {ops:Array Oper} {Step:Nat->Oper->St->St->Prop} {cp:Nat->Nat->Oper->Oper->Bool}
def sf (Step:Nat->Oper->St->St->Prop) (cp:Nat->Nat->Oper->Oper->Bool) (ops:Array Oper):Prop:=∀ i j oi oj,ops[i]? = some oi->ops[j]? = some oj->cp i j oi oj=true->∀ σ aH eu,Step i oi σ aH->Step j oj aH eu->∃ eT,Step j oj σ eT/\Step i oi eT eu
def Sound (P:Program) (X:Nat->Prop) (G:ao) (N:Fr) (Mv:Nat->Prop) (Step:Nat->Oper->St->St->Prop) (ops:Array Oper):Prop:=∀ i o,ops[i]? = some o->∀ σ ar,Step i o σ ar->∀ w μ a,In w X G μ N a σ->∀ {Q:Exit->Act->World->Prop} {K:Act->World->Prop},(∀ w' au a',In w' X G au N a' ar->Ev Mv w μ w' au->K a' w')->wpOpIn (wd N.ro) 0 P ops Q i K a w
def gz (Step:Nat->Oper->St->St->Prop) (ops:Array Oper):List Nat->St->St->Prop
 | [],σ,ar=>σ=ar
 | i :: l,σ,ar=>∃ o,ops[i]? = some o/\∃ aH,Step i o σ aH/\gz Step ops l aH ar
theorem Wj (hsw:sf Step cp ops) {p:Nat} {op:Oper} (hp:ops[p]? = some op):∀ (l1:List Nat) {l2:List Nat} {σ ar:St},(∀ q∈l1,∀ oq,ops[q]? = some oq->cp q p oq op=true)->gz Step ops (l1 ++ p :: l2) σ ar->gz Step ops (p :: (l1 ++ l2)) σ ar:=by
 intro l1
 induction l1 with
 | nil=>intro l2 σ ar _ h;exact h
 | cons q l1 ih=>
  intro l2 σ ar bx h;obtain ⟨oq,hq,aH,s1,rest⟩:=h;obtain ⟨o',eB,eu,s2,oW⟩:=ih (fun q' hq'=>bx q' (by simp [hq'])) rest;rw [hp] at eB;obtain rfl:=Option.some.inj eB;obtain ⟨eT,f1,f2⟩:=hsw q p oq op hq hp (bx q (by simp) oq hq) σ aH eu s1 s2;exact ⟨op,hp,eT,f1,oq,hq,eu,f2,oW⟩
def p3 (cp:Nat->Nat->Oper->Oper->Bool) (ord:List Nat) (ops:Array Oper):Bool:=
 let t:=tb ops
 ord.length == ops.size && (ord.all fun i=>decide (i < ops.size)) && ((List.range ops.size).all fun i=>ord.contains i) && decide ord.Nodup &&
 ((List.range ops.size).all fun j=>match ops[j]? with
  | some oj=>oj.after.all fun e=>!Region.binds .any e || e.on < j
  | none=>true) &&
 go t ord
where
 go (t:List Nat):List Nat->Bool
 | []=>true
 | a :: l=>(l.all fun b=>match ops[a]?,ops[b]? with
  | some oa,some ob=>(oa.after.all fun e=>!Region.binds .any e || !(e.on == b)) && ((t.getD b 0).testBit a || cp a b oa ob)
  | _,_=>true) && go t l
def AE (cp:Nat->Nat->Oper->Oper->Bool) (ops:Array Oper) (a b:Nat):Prop:=∀ oa ob,ops[a]? = some oa->ops[b]? = some ob->
 (∀ e∈oa.after,Region.binds .any e=true->e.on≠b)/\(((tb ops).getD b 0).testBit a=true\/cp a b oa ob=true)
theorem Jp:∀ {l:List Nat},p3.go cp ops (tb ops) l=true->l.Pairwise (AE cp ops)
 | [],_=>.nil
 | a :: l,h=>by
  simp only [p3.go,Bool.and_eq_true] at h;refine .cons (fun b hb oa ob oH mB=>?_) (Jp h.2);have:=List.all_eq_true.1 h.1 b hb;simp only [oH,mB,Bool.and_eq_true,Bool.or_eq_true] at this;refine ⟨fun e he hbi heq=>?_,this.2⟩;have h1:=Array.all_eq_true_iff_forall_mem.1 this.1 e he;simp [hbi,heq] at h1
theorem LZ (dO:Sound P X G N Mv Step ops) (hsw:sf Step cp ops) (ax:∀ j oj,ops[j]? = some oj->∀ e∈oj.after,Region.binds .any e=true->e.on < j) {Q:Exit->St->Prop} {w0:World} {fT:Mu} {bp:St} (hQ:Q .normal bp):∀ (n:Nat) (R:List Nat) (listed:Array Bool) (w:World) (μ:Mu) (a:Act) (σ:St),R.length=n->R.Nodup->
  (∀ j,j∈R↔j < ops.size/\listed.getD j true=false)->listed.size=ops.size->R.Pairwise (AE cp ops)->
  (∀ j oj,ops[j]? = some oj->listed.getD j false=true->∀ e∈oj.after,Region.binds .any e=true->listed.getD e.on false=true)->gz Step ops R σ bp->In w X G μ N a σ->Ev Mv w0 fT w μ->
  wpAnyIn (wd N.ro) 0 P .any ops (After Mv X G N w0 fT Q) n listed a w:=by
 intro n
 induction n with
 | zero=>
  intro R listed w μ a σ hl _ hR aI _ _ bK hi aG;have:R=[]:=List.eq_nil_of_length_eq_zero hl;subst this
  have hr:Region.ready .any ops listed=[]:=by
   apply List.eq_nil_iff_forall_not_mem.2;intro j hj;obtain ⟨h1,o,ho,_⟩:=mem_ready.1 hj;exact absurd ((hR j).2 ⟨(Array.getElem?_eq_some_iff.1 ho).1,h1⟩) (by simp)
  have:σ=bp:=bK;subst this;exact ⟨hr,μ,σ,hQ,hi,aG⟩
 | succ n ih=>
  intro R listed w μ a σ hl eY hR aI hpw abR bK hi aG;refine ⟨fun hr=>?_,fun i my=>?_⟩
  .cases R with
   | nil=>simp at hl
   | cons j R=>
    obtain ⟨hj1,hC⟩:=(hR j).1 (by simp)
    have bq:ops[j]? = some ops[j]:=by simp [hj1]
    have jw:j∈Region.ready .any ops listed:=by
     refine mem_ready.2 ⟨hC,ops[j],bq,fun e he hb=>?_⟩;have pG:=ax j ops[j] bq e he hb
     have aaq:e.on < ops.size:=by omega
     have aL:e.on ∉ (j :: R):=by
      intro hm
      rcases List.mem_cons.1 hm with h | h
      .omega
      .exact ((List.pairwise_cons.1 hpw).1 _ h ops[j] ops[e.on] bq (by simp [aaq])).1 e he hb rfl
     have:=mt (hR e.on).2 aL
     have gL:e.on < listed.size:=by omega
     simp only [aaq,true_and,Array.getD_eq_getD_getElem?] at this ⊢;simp [gL] at this ⊢;exact this
    rw [hr] at jw;cases jw
  .obtain ⟨hi1,oi,hoi,bx⟩:=mem_ready.1 my;have mv:i∈R:=(hR i).2 ⟨(Array.getElem?_eq_some_iff.1 hoi).1,hi1⟩;obtain ⟨R1,R2,rfl⟩:=List.append_of_mem mv
   have mu:=Wj hsw hoi R1 (fun q hq oq jA=>by
    have oI:AE cp ops q i:=(List.pairwise_append.1 hpw).2.2 q hq i (by simp)
    rcases (oI oq oi jA hoi).2 with h | h
    .exfalso;have jx:=uF ax abR i i oi (Nat.le_refl _) hoi bx q h;have e8:=((hR q).1 (by simp [hq])).2
     have mD:q < listed.size:=by have:=(Array.getElem?_eq_some_iff.1 jA).1;omega
     simp [Array.getD_eq_getD_getElem?,mD] at jx e8;rw [jx] at e8;cases e8
    .exact h) bK
   obtain ⟨o',eB,aH,hstep,b5⟩:=mu;rw [hoi] at eB;obtain rfl:=Option.some.inj eB;refine dO i oi hoi _ _ hstep _ _ _ hi fun w' au a' aC iz=>?_
   have mz:(R1 ++ R2).Nodup:=by
    have:=eY;rw [List.nodup_append] at this ⊢;obtain ⟨g1,g2,g3⟩:=this;exact ⟨g1,(List.nodup_cons.1 g2).2,fun x hx y hy=>g3 x hx y (by simp [hy])⟩
   have mw:i ∉ R1 ++ R2:=by
    have:=eY;rw [List.nodup_append] at this;obtain ⟨g1,g2,g3⟩:=this;intro hm
    rcases List.mem_append.1 hm with h | h
    .exact g3 i h i (by simp) rfl
    .exact (List.nodup_cons.1 g2).1 h
   refine ih (R1 ++ R2) _ w' au a' aH (by simp at hl ⊢;omega) mz (fun j=>?_) (by simpa using aI) ?_ ?_ b5 aC (aG.trans iz)
   .by_cases hji:j=i
    .subst hji
     have gL:j < listed.size:=by rw [aI];exact (Array.getElem?_eq_some_iff.1 hoi).1
     simp [gL];simpa using mw
    .rw [getD_set_ne true (Ne.symm hji)];rw [<- hR j];simp [hji]
   .rw [List.pairwise_append] at hpw ⊢;obtain ⟨g1,g2,g3⟩:=hpw;exact ⟨g1,(List.pairwise_cons.1 g2).2,fun x hx y hy=>g3 x hx y (by simp [hy])⟩
   .intro j oj bq hlj e he hb;by_cases hji:j=i
    .subst hji;rw [hoi] at bq;obtain rfl:=Option.some.inj bq;exact getD_set_true (bx e he hb)
    .rw [getD_set_ne false (Ne.symm hji)] at hlj;exact getD_set_true (abR j oj bq hlj e he hb)
theorem Fg (hm:P.follows .mixedOrders=true) (dO:Sound P X G N Mv Step ops) (hsw:sf Step cp ops) (ord:List Nat) {id:Nat} (hok:p3 cp ord ops=true) {Q:Exit->St->Prop} {σ:St} (h:(∀ i∈ord,i < ops.size)->∃ bp,Q .normal bp/\gz Step ops ord σ bp):AW P Mv X G N (.region id ops true) Q σ:=fun w μ a hi=>by
 unfold p3 at hok;simp only [Bool.and_eq_true] at hok;obtain ⟨⟨⟨⟨⟨h1,h2⟩,h3⟩,h4⟩,h5⟩,h6⟩:=hok
 have hlen:ord.length=ops.size:=by simpa using h1
 have ax:∀ i∈ord,i < ops.size:=fun i hi=>by simpa using List.all_eq_true.1 h2 i hi
 have bx:∀ i,i < ops.size->i∈ord:=fun i hi=>by simpa using List.all_eq_true.1 h3 i (List.mem_range.2 hi)
 have eY:ord.Nodup:=by simpa using h4
 have oA:∀ j oj,ops[j]? = some oj->∀ e∈oj.after,Region.binds .any e=true->e.on < j:=fun j oj bq e he hb=>by
  have:=List.all_eq_true.1 h5 j (List.mem_range.2 (Array.getElem?_eq_some_iff.1 bq).1);simp only [bq] at this;have:=Array.all_eq_true_iff_forall_mem.1 this e he;simpa [hb] using this
 obtain ⟨bp,hQ,bK⟩:=h ax;refine wpIn_region_any hm ?_;obtain ⟨aC,aG⟩:=hi.jR (Mv:=Mv) (bU.drew w);refine LZ dO hsw oA hQ ops.size ord _ w.drew μ a σ hlen eY (fun j=>?_) (by simp) (Jp h6) ?_ bK aC aG
 .constructor
  .intro hj;have:=ax j hj;simp [Array.getD_eq_getD_getElem?,this]
  .intro hj;exact bx j hj.1
 .intro j oj bq hlj;have hj:=(Array.getElem?_eq_some_iff.1 bq).1;simp [Array.getD_eq_getD_getElem?,hj] at hlj
def gq (T:Ty) (ops:Array Oper) (H H2:Heap) (p:Nat×AV):Prop:=match ops[p.1]? with
 | some o=>match o.op with
  | .load t _=>j3 T H t p.2=j3 T H2 t p.2
  | _=>False
 | none=>False
def lx (G:ao) (ex:List (Nat×AV)) (i:Nat) (o:Oper) (e:Env):Prop:=match ex.lookup i with
 | some pv=>match o.op with
  | .load _ x=>bd G e x=some pv
  | _=>False
 | none=>True
def LH (P:Program) (T:Ty) (Mv:Nat->Prop) (G:ao) (mvd:List Nat) (ops:Array Oper) (ex:List (Nat×AV)) (o:Oper) (σ ar:St):Prop:=∃ c g xs y H2,cr o.op=some c/\tgt G σ.env c=some (g,xs)/\(∀ r∈mvd,Mv r)/\HC P G mvd g xs σ.H y H2/\(∀ p∈ex,gq T ops σ.H H2 p)/\abm mvd y/\ar=⟨Z2 σ.env o.dst y,H2⟩
def qm (P:Program) (T:Ty) (Mv:Nat->Prop) (G:ao) (N:Fr) (mvd db hv:List Nat) (ex:List (Nat×AV)) (ops:Array Oper) (i:Nat) (o:Oper) (σ ar:St):Prop:=
 eQ N o/\o.guard=none/\acB mvd σ.env/\((db.contains i=true/\∃ c y,ke T G σ.env o=some (c,y)/\c/\ar=⟨Z2 σ.env o.dst (.d y),σ.H⟩)\/
  (db.contains i=false/\hv.contains i=true/\LH P T Mv G mvd ops ex o σ ar)\/
  (db.contains i=false/\hv.contains i=false/\kindOf o.op≠9/\lx G ex i o σ.env/\∃ x H',Ex P T Mv G o σ.env σ.H x H'/\abm mvd x/\ar=⟨Z2 σ.env o.dst x,H'⟩))
theorem IU (hg:Good P T) (mvd db hv:List Nat) (ex:List (Nat×AV)):Sound P X G N Mv (qm P T Mv G N mvd db hv ex ops) ops:=fun i o ho σ ar h w μ a hi Q K hk=>by
 obtain ⟨hd,c8,gb,h⟩:=h
 have gu:∀ d,o.dst=some d->d < N.n:=fun d e=>by unfold eQ at hd;rw [e] at hd;exact hd
 rcases h with ⟨_,c,y,h1,h2,rfl⟩ | ⟨_,_,c,g,xs,y,H2,hc,ht,hmv,dA,_,_,rfl⟩ | ⟨_,_,h9,_,x,H',h1,_,rfl⟩
 .unfold wpOpIn;simp only [ho];rw [r5 hi (af8 c8),if_pos rfl];refine uj (fun c e=>by simp [ke,e] at h1) ?_;obtain ⟨v,w',hr,aC,e9,aG⟩:=F4 (Mv:=Mv) hg hi h1 h2;unfold Oper.wp;rw [hr];exact hk _ μ _ (aC.put e9 gu) aG
 .unfold wpOpIn;simp only [ho];rw [r5 hi (af8 c8),if_pos rfl];refine (xS (Mv:=Mv) (K:=fun aH=>aH=⟨Z2 σ.env o.dst y,H2⟩) hg hi gu ?_ fun w' au a' aH e aC aG=>hk w' au a' (e ▸ aC) aG);unfold jr;simp only [hc,ht]
  exact (dA Mv X N σ.env hmv gb).mono fun x ar ⟨e1,e2⟩=>by rw [e1,e2]
 .exact ad8 hg ⟨hd,.inl ⟨af8 c8,h1.to⟩⟩ hi ho hk
def A7 (db hv:List Nat) (ex:List (Nat×AV)) (ops:Array Oper) (i j:Nat) (oi oj:Oper):Bool:=oi.apart ops oj && (db.contains i || db.contains j ||
 (if hv.contains i then !hv.contains j && (kindOf oj.op == 0 || (ex.lookup j).isSome) else if hv.contains j then kindOf oi.op == 0 || (ex.lookup i).isSome else oU (kindOf oi.op) (kindOf oj.op)))
theorem zi {ex:List (Nat×AV)} {i:Nat} {pv:AV} (h:ex.lookup i=some pv):(i,pv)∈ex:=by
 induction ex with
 | nil=>cases h
 | cons p ex ih=>
  rw [List.lookup_cons] at h;split at h
  .rename_i he;obtain rfl:=Option.some.inj h
   have:i=p.1:=by simpa using he
   rw [this];simp
  .exact List.mem_cons_of_mem _ (ih h)
theorem ad3 {i:Nat} {o:Oper} (ho:ops[i]? = some o) {ex:List (Nat×AV)} {pv:AV} (hl:ex.lookup i=some pv) {e:Env} {H H2 H':Heap} {x:AV} (hat:lx G ex i o e) (hs:gq T ops H H2 (i,pv)) (h:Ex P T Mv G o e H x H'):H'=H/\Ex P T Mv G o e H2 x H2:=by
 unfold lx at hat
 rw [hl] at hat
 unfold gq at hs;simp only [ho] at hs;obtain ⟨dst,op,type,pos,after,guard⟩:=o;dsimp only at hat hs
 cases op<;>dsimp only at hat hs<;>try exact hat.elim
 unfold Ex at h ⊢;simp only [cr,aaU,rd,Bool.false_eq_true,if_false,hat,Option.bind_some] at h ⊢;obtain ⟨c,h1,h2,rfl⟩:=h;exact ⟨rfl,c,by rw [<- hs];exact h1,h2,trivial⟩
theorem Un (mvd db hv:List Nat) (ex:List (Nat×AV)):sf (qm P T Mv G N mvd db hv ex ops) (A7 db hv ex ops) ops:=fun i j oi oj hoi bq hc σ aH eu h1 h2=>by
 simp only [A7,Bool.and_eq_true] at hc;obtain ⟨eJ,fH⟩:=hc;obtain ⟨di,gi,oE,h1⟩:=h1;obtain ⟨dj,gj,_,h2⟩:=h2;have dV:∀ v,fg oj.op (Z2 σ.env oi.dst v) σ.env:=fun v t ht=>(abn eJ (e:=σ.env) (v:=v)).1 t (il ht);have eG:∀ v,fg oi.op σ.env (Z2 σ.env oj.dst v):=fun v t ht=>((abn eJ (e:=σ.env) (v:=v)).2.1 t (il ht)).symm;have aL:=(abn eJ (e:=σ.env) (v:=cu)).2.2;have tg:∀ {o:Oper} {c:Call} {e e':Env},cr o.op=some c->fg o.op e e'->tgt G e c=tgt G e' c:=fun {o c e e'} hc ha=>ud fun t ht=>ha t (by rw [(pQ hc).1];exact ht)
 have ly:∀ {k:Nat} {o:Oper} {e e':Env},fg o.op e e'->lx G ex k o e->lx G ex k o e':=fun {k o e e'} ha h=>by
  unfold lx at h ⊢;split
  .rename_i pv hl;simp only [hl] at h;split
   .rename_i t x gW;simp only [gW] at h;rw [<- aaH (x:=x) fun t' pL=>ha t' (by rw [gW,pL];simp [Op.operands])];exact h
   .rename_i eA;split at h
    .rename_i t x gW;exact absurd gW (eA t x)
    .exact h
  .trivial
 rcases h1 with ⟨bi,c,y,e1,c1,rfl⟩ | ⟨bi,vi,c,g,xs,y,H2,hci,ti,hmv,hcl,gK,oy,rfl⟩ | ⟨bi,vi,k1,l1,x,H',e1,ox,rfl⟩
 .-- data first
  rcases h2 with ⟨bj,c',z,e2,c2,rfl⟩ | ⟨bj,vj,c',g,xs,z,H2,kJ,tj,hmv,hcl,gK,oz,rfl⟩ | ⟨bj,vj,k2,l2,z,H2,e2,oz,rfl⟩
  .rw [jO (dV _)] at e2;refine ⟨⟨Z2 σ.env oj.dst (.d z),σ.H⟩,⟨dj,gj,oE,.inl ⟨bj,c',z,e2,c2,rfl⟩⟩,di,gi,oE.put (abm.d _ _) _,.inl ⟨bi,c,y,?_,c1,?_⟩⟩
   .rw [<- jO (eG _)];exact e1
   .rw [fm aL]
  .rw [tg kJ (dV _)] at tj;refine ⟨⟨Z2 σ.env oj.dst z,H2⟩,⟨dj,gj,oE,.inr (.inl ⟨bj,vj,c',g,xs,z,H2,kJ,tj,hmv,hcl,gK,oz,rfl⟩)⟩,di,gi,oE.put oz _,.inl ⟨bi,c,y,?_,c1,?_⟩⟩
   .rw [<- jO (eG _)];exact e1
   .rw [fm aL]
  .refine ⟨⟨Z2 σ.env oj.dst z,H2⟩,⟨dj,gj,oE,.inr (.inr ⟨bj,vj,k2,ly (dV _) l2,z,H2,e2.congr k2 (dV _),oz,rfl⟩)⟩,di,gi,oE.put oz _,.inl ⟨bi,c,y,?_,c1,?_⟩⟩
   .rw [<- jO (eG _)];exact e1
   .rw [fm aL]
 .-- a call first
  rcases h2 with ⟨bj,c',z,e2,c2,rfl⟩ | ⟨bj,vj,_⟩ | ⟨bj,vj,k2,l2,z,H3,e2,oz,rfl⟩
  .rw [jO (dV _)] at e2;refine ⟨⟨Z2 σ.env oj.dst (.d z),σ.H⟩,⟨dj,gj,oE,.inl ⟨bj,c',z,e2,c2,rfl⟩⟩,di,gi,oE.put (abm.d _ _) _,.inr (.inl ⟨bi,vi,c,g,xs,y,H2,hci,?_,hmv,hcl,gK,oy,?_⟩)⟩
   .rw [<- tg hci (eG _)];exact ti
   .rw [fm aL]
  .rw [bi,bj,vi] at fH;simp [vj] at fH
   simp_all
  .rw [bi,bj] at fH;have pj:=e2.congr k2 (dV _);have l2':=ly (dV _) l2
   have hq:H3=H2/\Ex P T Mv G oj σ.env σ.H z σ.H:=by
    have hp:kindOf oj.op=0\/(ex.lookup j).isSome=true:=by
     simp only [Bool.false_or,vi,vj,if_true,Bool.not_false,Bool.true_and] at fH;simpa using fH
    rcases hp with hp | hp
    .exact ⟨pj.keeps (by omega),pj.free hp σ.H⟩
    .obtain ⟨pv,jg⟩:=Option.isSome_iff_exists.1 hp;have hs:=gK _ (zi jg);refine ad3 bq jg l2' ?_ pj;unfold gq at hs ⊢;simp only [bq] at hs ⊢;split<;>simp_all
   obtain ⟨rfl,e3⟩:=hq;refine ⟨⟨Z2 σ.env oj.dst z,σ.H⟩,⟨dj,gj,oE,.inr (.inr ⟨bj,vj,k2,l2',z,σ.H,e3,oz,rfl⟩)⟩,di,gi,oE.put oz _,.inr (.inl ⟨bi,vi,c,g,xs,y,H3,hci,?_,hmv,hcl,gK,oy,?_⟩)⟩
   .rw [<- tg hci (eG _)];exact ti
   .rw [fm aL]
 .rcases h2 with ⟨bj,c',z,e2,c2,rfl⟩ | ⟨bj,vj,c',g,xs,z,H2,kJ,tj,hmv,hcl,gK,oz,rfl⟩ | ⟨bj,vj,k2,l2,z,H2,e2,oz,rfl⟩
  .rw [jO (dV _)] at e2;refine ⟨⟨Z2 σ.env oj.dst (.d z),σ.H⟩,⟨dj,gj,oE,.inl ⟨bj,c',z,e2,c2,rfl⟩⟩,di,gi,oE.put (abm.d _ _) _,.inr (.inr ⟨bi,vi,k1,ly (eG _) l1,x,H',e1.congr k1 (eG _),ox,?_⟩)⟩;rw [fm aL]
  .rw [tg kJ (dV _)] at tj;rw [bi,bj] at fH
   have hp:kindOf oi.op=0\/(ex.lookup i).isSome=true:=by
    simp only [Bool.false_or,vi,vj,if_true,Bool.false_eq_true,if_false] at fH;simpa using fH
   have sy:=e1.congr k1 (eG z);have pS:=ly (eG z) l1
   rcases hp with hp | hp
   .obtain rfl:=e1.keeps (by omega);refine ⟨⟨Z2 σ.env oj.dst z,H2⟩,⟨dj,gj,oE,.inr (.inl ⟨bj,vj,c',g,xs,z,H2,kJ,tj,hmv,hcl,gK,oz,rfl⟩)⟩,di,gi,oE.put oz _,.inr (.inr ⟨bi,vi,k1,pS,x,H2,sy.free hp H2,ox,?_⟩)⟩;rw [fm aL]
   .obtain ⟨pv,jg⟩:=Option.isSome_iff_exists.1 hp;have hs:=gK _ (zi jg);have hH:H'=σ.H:=(ad3 (H2:=σ.H) hoi jg l1 (by unfold gq;simp only [hoi];unfold gq at hs;simp only [hoi] at hs;split<;>simp_all) e1).1;subst hH;obtain ⟨_,e3⟩:=ad3 hoi jg pS hs sy;refine ⟨⟨Z2 σ.env oj.dst z,H2⟩,⟨dj,gj,oE,.inr (.inl ⟨bj,vj,c',g,xs,z,H2,kJ,tj,hmv,hcl,gK,oz,rfl⟩)⟩,di,gi,oE.put oz _,.inr (.inr ⟨bi,vi,k1,pS,x,H2,e3,ox,?_⟩)⟩;rw [fm aL]
  .rw [bi,bj] at fH
   have hcc:abo ops oi oj=true:=by simp only [abo,Bool.and_eq_true];simp only [Bool.false_or,vi,vj,Bool.false_eq_true,if_false] at fH;exact ⟨eJ,fH⟩
   obtain ⟨H3,f1,f2⟩:=adN (N:=N) hcc ⟨di,.inl ⟨af8 gi,e1⟩⟩ ⟨dj,.inl ⟨af8 gj,e2⟩⟩ k1 k2
   have un:∀ {o:Oper} {e:Env} {H H':Heap} {x:AV},o.guard=none->Sx P T Mv G N ops o e H x H'->Ex P T Mv G o e H x H':=fun c8 h=>by
    rcases h.2 with ⟨_,h⟩ | ⟨hw,_⟩
    .exact h
    .rw [af8 c8] at hw;cases hw
   refine ⟨⟨Z2 σ.env oj.dst z,H3⟩,⟨dj,gj,oE,.inr (.inr ⟨bj,vj,k2,ly (dV _) l2,z,H3,un gj f1,oz,rfl⟩)⟩,di,gi,oE.put oz _,.inr (.inr ⟨bi,vi,k1,ly (eG _) l1,x,H2,un gi f2,ox,?_⟩)⟩;rw [fm aL]
def ou (P:Program) (T:Ty) (Mv:Nat->Prop) (G:ao) (mvd:List Nat) (ops:Array Oper) (ex:List (Nat×AV)) (g:FuncId) (xs:List AV) (σ:St) (dst:Option Tmp) (K:St->Prop):Prop:=∃ y H2,(∀ r∈mvd,Mv r)/\HC P G mvd g xs σ.H y H2/\(∀ p∈ex,gq T ops σ.H H2 p)/\abm mvd y/\K ⟨Z2 σ.env dst y,H2⟩
theorem ou.mc {mvd:List Nat} {ex:List (Nat×AV)} {dst:Option Tmp} {K:St->Prop} {fx:List Nat} {g:FuncId} {jJ xs:List AV} {bJ dT:List (Nat×Row)} {y:AV} (hc:MC P G fx g xs (ZX bJ) y (ZX dT)) (hx:jJ.map (AV.tr (du (bJ.map (·.1))) (dt (bJ.map (·.1))))=xs)
  (hH:∀ p∈bJ,(σ.H p.1).map (Row.tr (du (bJ.map (·.1))) (dt (bJ.map (·.1))))=ZX bJ p.1) (hd:∀ p∈dT,(bJ.map (·.1)).contains p.1=true\/σ.H p.1=none) (hm:∀ r∈bJ.map (·.1),fx.contains r=false->r∈mvd) (hmv:∀ r∈mvd,Mv r) (ho:∀ r∈mvd,y.kill r=y)
  (hl:∀ p∈ex,gq T ops σ.H (jv (ZX dT) (trH (dP (bJ.map (·.1))) (iQ (bJ.map (·.1)) fx) (iP (bJ.map (·.1)) fx) σ.H)) p)
  (h:K ⟨Z2 σ.env dst y,jv (ZX dT) (trH (dP (bJ.map (·.1))) (iQ (bJ.map (·.1)) fx) (iP (bJ.map (·.1)) fx) σ.H)⟩):ou P T Mv G mvd ops ex g jJ σ dst K:=⟨y,_,hmv,.mc hc hx hH hd hm,hl,ho,h⟩
def wR (T:Ty) (G:ao) (Mv:Nat->Prop) (mvd:List Nat) (o:Oper) (σ:St) (next:St->Prop):Prop:=
 if aaU o.op then match wr T G Mv σ o with
  | some (c,x,ar)=>c/\(∀ r∈mvd,x.kill r=x)/\next ⟨Z2 ar.env o.dst x,ar.H⟩
  | none=>False
 else match rd T G σ o.op with
  | some (c,x)=>c/\(∀ r∈mvd,x.kill r=x)/\next ⟨Z2 σ.env o.dst x,σ.H⟩
  | none=>False
def z7 (P:Program) (T:Ty) (Mv:Nat->Prop) (G:ao) (N:Fr) (mvd db hv:List Nat) (ex:List (Nat×AV)) (ops:Array Oper) (i:Nat) (o:Oper) (σ:St) (K:St->Prop):Prop:=eQ N o/\o.guard=none/\
 if db.contains i=true then (match ke T G σ.env o with
  | some (c,y)=>c/\K ⟨Z2 σ.env o.dst (.d y),σ.H⟩
  | none=>False)
 else if hv.contains i=true then (match cr o.op with
  | some c=>match tgt G σ.env c with
   | some (g,xs)=>ou P T Mv G mvd ops ex g xs σ o.dst K
   | none=>False
  | none=>False)
 else kindOf o.op≠9/\lx G ex i o σ.env/\match cr o.op with
  | some c=>mj P G c σ.env o.dst σ.H [] [] K
  | none=>wR T G Mv mvd o σ K
def xd (P:Program) (T:Ty) (Mv:Nat->Prop) (G:ao) (N:Fr) (mvd db hv:List Nat) (ex:List (Nat×AV)) (ops:Array Oper) (K:St->Prop):List (Nat×Oper)->St->Prop
 | [],σ=>K σ
 | (i,o) :: rest,σ=>z7 P T Mv G N mvd db hv ex ops i o σ (xd P T Mv G N mvd db hv ex ops K rest)
theorem W5 {mvd db hv:List Nat} {ex:List (Nat×AV)} {K:St->Prop}:∀ (l:List Nat) (σ:St),(∀ i∈l,i < ops.size)->acB mvd σ.env->xd P T Mv G N mvd db hv ex ops K (aak ops l) σ->∃ bp,K bp/\gz (qm P T Mv G N mvd db hv ex ops) ops l σ bp:=by
 intro l
 induction l with
 | nil=>intro σ _ _ h;exact ⟨σ,h,rfl⟩
 | cons i l ih=>
  intro σ hl gb h;have hi:=hl i (by simp)
  have ho:ops[i]? = some ops[i]:=by simp [hi]
  simp only [aak,ho] at h;generalize ops[i]=o at ho h;simp only [xd,z7] at h;obtain ⟨hd,c8,h⟩:=h
  have fin:∀ aH,qm P T Mv G N mvd db hv ex ops i o σ aH->acB mvd aH.env->xd P T Mv G N mvd db hv ex ops K (aak ops l) aH->∃ bp,K bp/\gz (qm P T Mv G N mvd db hv ex ops) ops (i :: l) σ bp:=fun aH hs hE h1=>by
   obtain ⟨bp,hk,hr⟩:=ih aH (fun j hj=>hl j (by simp [hj])) hE h1;exact ⟨bp,hk,o,ho,aH,hs,hr⟩
  split at h
  .rename_i hb;split at h
   .rename_i c y hw;obtain ⟨hc,h⟩:=h;exact fin _ ⟨hd,c8,gb,.inl ⟨hb,c,y,hw,hc,rfl⟩⟩ (gb.put (abm.d _ _) _) h
   .exact h.elim
  .rename_i hb
   have hb:db.contains i=false:=by simpa using hb
   split at h
   .rename_i gg;split at h
    .rename_i c hc;split at h
     .rename_i g xs ht;obtain ⟨y,H2,h0,h1,h2,h3,h⟩:=h;exact fin _ ⟨hd,c8,gb,.inr (.inl ⟨hb,gg,c,g,xs,y,H2,hc,ht,h0,h1,h2,h3,rfl⟩)⟩ (gb.put h3 _) h
     .exact h.elim
    .exact h.elim
   .rename_i gg
    have gg:hv.contains i=false:=by simpa using gg
    obtain ⟨hk,hla,h⟩:=h;split at h
    .rename_i c hc;obtain ⟨y,g,ds,ht,hp,e7,h⟩:=h;refine fin _ ⟨hd,c8,gb,.inr (.inr ⟨hb,gg,hk,hla,.d y,σ.H,?_,abm.d _ _,rfl⟩)⟩ (gb.put (abm.d _ _) _) h;unfold Ex;simp only [hc];exact ⟨y,⟨g,_,ht,.inl ⟨ds,rfl,hp⟩⟩,rfl,trivial⟩
    .rename_i hc;unfold wR at h;split at h
     .rename_i hw;split at h
      .rename_i c x aH h1;obtain ⟨hcc,e7,h⟩:=h;have he:=ad9 hk h1;obtain ⟨e,H⟩:=σ;obtain ⟨e1,H1⟩:=aH;dsimp only at he;subst he;refine fin _ ⟨hd,c8,gb,.inr (.inr ⟨hb,gg,hk,hla,x,H1,?_,e7,rfl⟩)⟩ (gb.put e7 _) h;unfold Ex;simp only [hc];rw [if_pos hw];exact ⟨c,h1,hcc⟩
      .exact h.elim
     .rename_i hw;split at h
      .rename_i c x h1;obtain ⟨hcc,e7,h⟩:=h;refine fin _ ⟨hd,c8,gb,.inr (.inr ⟨hb,gg,hk,hla,x,σ.H,?_,e7,rfl⟩)⟩ (gb.put e7 _) h;unfold Ex;simp only [hc];rw [if_neg hw];exact ⟨c,h1,hcc,trivial⟩
      .exact h.elim
end
attribute [simp] z7 lx wR
end Go.Av
namespace Go.Av
section
variable {P:Program} {T:Ty} {Mv X:Nat->Prop} {G:ao} {N:Fr} {ops:Array Oper} {σ:St}
def Ax (P:Program) (T:Ty) (Mv:Nat->Prop) (G:ao) (N:Fr) (ap db hv:List Nat) (ex:List (Nat×AV)) (ops:Array Oper) (i:Nat) (o:Oper) (σ ar:St):Prop:=
 (ap.contains i=true/\eQ N o/\o.guard=none/\cr o.op=none/\aaU o.op=true/\∃ c x aH,wr T G Mv σ o=some (c,x,aH)/\c/\ar=⟨Z2 aH.env o.dst x,aH.H⟩)\/
 (ap.contains i=false/\qm P T Mv G N [] db hv ex ops i o σ ar)
def xG (ap db hv:List Nat) (ex:List (Nat×AV)) (ops:Array Oper) (i j:Nat) (oi oj:Oper):Bool:=!ap.contains i && !ap.contains j && A7 db hv ex ops i j oi oj
theorem UF (hg:Good P T) (ap db hv:List Nat) (ex:List (Nat×AV)):Sound P X G N Mv (Ax P T Mv G N ap db hv ex ops) ops:=fun i o ho σ ar h w μ a hi Q K hk=>by
 rcases h with ⟨_,hd,c8,hc,hw,c,x,aH,h1,h2,rfl⟩ | ⟨_,h⟩
 .refine ad8 hg ⟨hd,.inl ⟨af8 c8,?_⟩⟩ hi ho hk;unfold kh;simp only [hc];rw [if_pos hw];exact ⟨c,x,aH,h1,h2,rfl⟩
 .exact IU hg [] db hv ex i o ho _ _ h w μ a hi hk
theorem UG (ap db hv:List Nat) (ex:List (Nat×AV)):sf (Ax P T Mv G N ap db hv ex ops) (xG ap db hv ex ops) ops:=fun i j oi oj hoi bq hc σ aH eu h1 h2=>by
 simp only [xG,Bool.and_eq_true,Bool.not_eq_true'] at hc;obtain ⟨⟨ai,aj⟩,hc⟩:=hc
 rcases h1 with ⟨bi,_⟩ | ⟨_,h1⟩
 .rw [ai] at bi;cases bi
 rcases h2 with ⟨bj,_⟩ | ⟨_,h2⟩
 .rw [aj] at bj;cases bj
 obtain ⟨eT,f1,f2⟩:=Un [] db hv ex i j oi oj hoi bq hc σ aH eu h1 h2;exact ⟨eT,.inr ⟨aj,f1⟩,.inr ⟨ai,f2⟩⟩
def xa (P:Program) (T:Ty) (Mv:Nat->Prop) (G:ao) (N:Fr) (ap db hv:List Nat) (ex:List (Nat×AV)) (ops:Array Oper) (i:Nat) (o:Oper) (σ:St) (K:St->Prop):Prop:=
 if ap.contains i=true then eQ N o/\o.guard=none/\cr o.op=none/\aaU o.op=true/\match wr T G Mv σ o with
  | some (c,x,aH)=>c/\K ⟨Z2 aH.env o.dst x,aH.H⟩
  | none=>False
 else z7 P T Mv G N [] db hv ex ops i o σ K
def adk (P:Program) (T:Ty) (Mv:Nat->Prop) (G:ao) (N:Fr) (ap db hv:List Nat) (ex:List (Nat×AV)) (ops:Array Oper) (K:St->Prop):List (Nat×Oper)->St->Prop
 | [],σ=>K σ
 | (i,o) :: rest,σ=>xa P T Mv G N ap db hv ex ops i o σ (adk P T Mv G N ap db hv ex ops K rest)
theorem W0 {ap db hv:List Nat} {ex:List (Nat×AV)} {K:St->Prop}:∀ (l:List Nat) (σ:St),(∀ i∈l,i < ops.size)->adk P T Mv G N ap db hv ex ops K (aak ops l) σ->∃ bp,K bp/\gz (Ax P T Mv G N ap db hv ex ops) ops l σ bp:=by
 intro l
 induction l with
 | nil=>intro σ _ h;exact ⟨σ,h,rfl⟩
 | cons i l ih=>
  intro σ hl h;have hi:=hl i (by simp)
  have ho:ops[i]? = some ops[i]:=by simp [hi]
  have aC:aak ops (i :: l)=(i,ops[i]) :: aak ops l:=by simp [aak,hi]
  rw [aC] at h;have h:xa P T Mv G N ap db hv ex ops i ops[i] σ (adk P T Mv G N ap db hv ex ops K (aak ops l)):=h;unfold xa at h;split at h
  .rename_i ha;obtain ⟨hd,c8,hc,hw,h⟩:=h;split at h
   .rename_i c x aH h1;obtain ⟨hcc,h⟩:=h;obtain ⟨bp,hk,hr⟩:=ih _ (fun j hj=>hl j (by simp [hj])) h;exact ⟨bp,hk,_,ho,_,.inl ⟨ha,hd,c8,hc,hw,c,x,aH,h1,hcc,rfl⟩,hr⟩
   .exact h.elim
  .rename_i ha
   have P8:aak ops [i]=[(i,ops[i])]:=by simp [aak,hi]
   have hm:xd P T Mv G N [] db hv ex ops (adk P T Mv G N ap db hv ex ops K (aak ops l)) (aak ops [i]) σ:=by rw [P8];exact h
   obtain ⟨aH,hk1,o',eB,X9,hs,hr1⟩:=W5 [i] σ (by simpa using hi) (fun r hr=>by cases hr) hm;have hr1:X9=aH:=hr1;subst hr1;obtain ⟨bp,hk,hr⟩:=ih _ (fun j hj=>hl j (by simp [hj])) hk1;exact ⟨bp,hk,o',eB,_,.inr ⟨by simpa using ha,hs⟩,hr⟩
theorem Ly (hg:Good P T) (hm:P.follows .mixedOrders=true) (ap db hv:List Nat) (ex:List (Nat×AV)) (ord:List Nat) {id:Nat} (hok:p3 (xG ap db hv ex ops) ord ops=true) {Q:Exit->St->Prop} (h:adk P T Mv G N ap db hv ex ops (fun ar=>Q .normal ar) (aak ops ord) σ):AW P Mv X G N (.region id ops true) Q σ:=
 Fg hm (UF hg ap db hv ex) (UG ap db hv ex) ord hok fun ax=>W0 ord σ ax h
theorem Fh (hg:Good P T) (hm:P.follows .mixedOrders=true) (ap db hv:List Nat) (ex:List (Nat×AV)) (ord:List Nat) {id:Nat} (hok:p3 (xG ap db hv ex ops) ord ops=true) {Q:Exit->St->Prop}
  (h:∀ K:St->Prop,(∀ τ:St,Q .normal τ->K τ)->adk P T Mv G N ap db hv ex ops K (aak ops ord) σ):AW P Mv X G N (.region id ops true) Q σ:=Ly hg hm ap db hv ex ord hok (h _ fun _ h=>h)
theorem jn {ap db hv:List Nat} {ex:List (Nat×AV)} {K:St->Prop} {i:Nat} {l:List Nat} {o:Oper} (ho:ops[i]? = some o) (h:∀ K':St->Prop,(∀ τ,adk P T Mv G N ap db hv ex ops K (aak ops l) τ->K' τ)->xa P T Mv G N ap db hv ex ops i o σ K'):adk P T Mv G N ap db hv ex ops K (aak ops (i :: l)) σ:=by
 have:aak ops (i :: l)=(i,o) :: aak ops l:=by simp [aak,ho]
 rw [this];exact h _ fun _ h=>h
theorem KS {ap db hv:List Nat} {ex:List (Nat×AV)} {K:St->Prop} (h:K σ):adk P T Mv G N ap db hv ex ops K (aak ops []) σ:=h
end
attribute [simp] xa
end Go.Av
