/- Parts. -/
import Derived.Test.YtdigkhaofjmgkaaGreatDoorMs9
import Derived.Scope
set_option linter.unusedSectionVars false
set_option linter.unusedSimpArgs false
set_option linter.unusedVariables false
namespace Go.Av
def Jt (Q:Exit->St->Prop):Exit->St->Prop
 | .goto _,_=>False
 | e,σ=>Q e σ
section
variable {P:Program} {Mv X:Nat->Prop} {G:ao} {N:Fr} {σ:St}
theorem Fo {n:Nat} {ds:List Deferred} {c:Code} {Q:Exit->St->Prop} (h:AW P Mv X G ⟨n,ds,none⟩ c (Jt Q) σ):AW P Mv X G ⟨n,ds,none⟩ (.scope c) Q σ:=fun w μ a hi=>
 (wpIn_wide (n:=0)).2 <| wp_scope_straight (wp_mono ((wpIn_wide (n:=0)).1 (h w μ a hi)) fun e a' w' ⟨ax,aw,q,i,ev⟩=>by
  cases e with
  | goto l=>exact q.elim
  | _=>exact⟨ax,aw,q,i,ev⟩)
end
attribute [simp] Jt
end Go.Av
namespace Go.Av
section
variable {P:Program} {T:Ty} {Mv X:Nat->Prop} {G:ao} {N:Fr} {w:World} {μ:Mu} {a:Act} {σ:St}
def lE (mvd:List Nat) (e:Env):Prop:=∀ r∈mvd,aa6 r e=e
def acd (mvd:List Nat) (x:AV):Prop:=∀ r∈mvd,x.kill r=x
theorem lE.put {mvd:List Nat} {e:Env} (h:lE mvd e) {x:AV} (hx:acd mvd x) (d:Option Tmp):lE mvd (aD e d x):=fun r hr=>by rw[zk,h r hr,hx r hr]
theorem acd.d (mvd:List Nat) (y:D):acd mvd (.d y):=fun _ _=>rfl
theorem RV.off {w':World} {ax:Mu} {mvd:List Nat} (aJ:Ev (fun r=>r∈mvd) w μ w' ax):∀ {v:Value} {x:AV},RV w X μ v x->acd mvd x->RV w' X ax v x:=by
 intro v x hr;have ne:∀ {q:Nat},(∀ r∈mvd,¬ q=r)->∀ m,μ q=some m->ax q=some m:=fun h m hm=>aJ.kept _ m hm fun jP=>h _ jP rfl
 have sub:∀ {l:List AV},(∀ r∈mvd,AV.kill.go r l=l)->∀ (j:Nat) (c:AV),l[j]? = some c->acd mvd c:=fun {l} h j c hc r hr=>by
  have:=h r hr;rw[AV.go_eq]at this;have h2:=congrArg (fun l:List AV=>l[j]?) this;simp only[List.getElem?_map,hc,Option.map_some,Option.some.injEq]at h2;exact h2
 induction hr with
 | d h'=>intro _;exact .d (h'.ev aJ)
 | own hm h'=>
  intro ho;refine .own (ne (fun r hr e=>?_) _ hm) h';have:=ho r hr;simp[AV.kill,e]at this
 | ref hm hb=>
  intro ho;refine .ref (ne (fun r hr e=>?_) _ hm) hb;have:=ho r hr;simp[AV.kill,e]at this
 | agg hn _ ih=>
  intro ho;exact .agg hn fun j u c hu hc=>ih j u c hu hc (sub (fun r hr=>by have:=ho r hr;simpa[AV.kill]using this) j c hc)
 | tup hn _ ih=>
  intro ho;exact .tup hn fun j u c hu hc=>ih j u c hu hc (sub (fun r hr=>by have:=ho r hr;simpa[AV.kill]using this) j c hc)
 | bA _ ih=>intro ho;exact .bA (ih fun r hr=>by have:=ho r hr;simpa[AV.kill]using this)
 | bm _ ih=>intro ho;exact .bm (ih fun r hr=>by have:=ho r hr;simpa[AV.kill]using this)
 | fn hn _ ih=>
  intro ho;exact .fn hn fun j u c hu hc=>ih j u c hu hc (sub (fun r hr=>by have:=ho r hr;simpa[AV.kill]using this) j c hc)
 | mp hm hb=>
  intro ho;refine .mp (ne (fun r hr e=>?_) _ hm) hb;have:=ho r hr;simp[AV.kill,e]at this
 | dead u=>intro _;exact .dead u
def HC (P:Program) (G:ao) (mvd:List Nat) (g:FuncId) (xs:List AV) (H:Heap) (y:AV) (H2:Heap):Prop:=∀ (Mv X:Nat->Prop) (N:Fr) (e:Env),(∀ r∈mvd,Mv r)->lE mvd e->ir P Mv X G N g xs ⟨e,H⟩ fun x aw=>x=y/\aw=⟨e,H2⟩
theorem HC.of {mvd:List Nat} {g:FuncId} {xs:List AV} {H H2:Heap} {y:AV} (h:∀ (X:Nat->Prop) (N:Fr) (e:Env),ir P (fun r=>r∈mvd) X G N g xs ⟨e,H⟩ fun x aw=>x=y/\aw.H=H2):HC P G mvd g xs H y H2:=fun Mv X N e eH abL=>by
 refine⟨(h X N e).1,fun w μ a vs hi hn hv=>((h X N e).2 w μ a vs hi hn hv).mono fun e' w' ⟨v,x,aw,ax,he,⟨wN,hH⟩,aF,hr,aJ⟩=>?_⟩;subst hH;refine⟨v,x,⟨e,aw.H⟩,ax,he,⟨wN,rfl⟩,⟨aF.aY,⟨hi.env.defers,hi.env.size,fun i z hz=>?_⟩,aF.gq⟩,hr,aJ.weaken fun r _ _ h=>eH r h⟩;obtain⟨u,hu,wE⟩:=hi.env.slot i z hz;refine⟨u,hu,RV.off aJ wE fun r hr=>?_⟩;have h1:=congrFun (abL r hr) i;replace hz:e i=some z:=hz;simpa[aa6,hz]using h1
theorem HC.mc {mvd:List Nat} {fx:List Nat} {g:FuncId} {jZ xs:List AV} {H:Heap} {aaO ek:List (Nat×Row)} {y:AV} (hc:MC P G fx g xs (ak aaO) y (ak ek)) (hx:jZ.map (AV.tr (dD (aaO.map (·.1))) (abk (aaO.map (·.1))))=xs)
  (hH:∀ p∈aaO,(H p.1).map (Row.tr (dD (aaO.map (·.1))) (abk (aaO.map (·.1))))=ak aaO p.1) (hd:∀ p∈ek,(aaO.map (·.1)).contains p.1=true\/H p.1=none) (hm:∀ r∈aaO.map (·.1),fx.contains r=false->r∈mvd) :
  HC P G mvd g jZ H y (jM (ak ek) (trH (ea (aaO.map (·.1))) (jg (aaO.map (·.1)) fx) (jf (aaO.map (·.1)) fx) H)):=.of fun X N e=>by
 refine ir.zw hc hx (funext (Ab hH)).symm (fun q hq=>?_) (fun r hr=>hm r (List.contains_iff_mem.1 hr)) ⟨rfl,rfl⟩
 have jP:∀ l:List (Nat×Row),(ak l q).isSome=true->∃ p∈l,p.1=q:=by
  intro l
  induction l with
  | nil=>intro h;simp[ak]at h
  | cons p l ih=>
   intro h;simp only[ak,List.lookup]at h
   cases lg:(q == p.1) with
   | true=>exact⟨p,by simp,by simpa using (beq_iff_eq.1 lg).symm⟩
   | false=>
    rw[lg]at h;obtain⟨p',h1,h2⟩:=ih h;exact⟨p',by simp[h1],h2⟩
 obtain⟨p,hp,rfl⟩:=jP ek hq;exact hd p hp
variable {ops:Array Oper} {Step:Nat->Oper->St->St->Prop} {cp:Nat->Nat->Oper->Oper->Bool}
def s5 (Step:Nat->Oper->St->St->Prop) (cp:Nat->Nat->Oper->Oper->Bool) (ops:Array Oper):Prop:=∀ i j oi oj,ops[i]? = some oi->ops[j]? = some oj->cp i j oi oj=true->∀ σ aI eL,Step i oi σ aI->Step j oj aI eL->∃ e6,Step j oj σ e6/\Step i oi e6 eL
def Sound (P:Program) (X:Nat->Prop) (G:ao) (N:Fr) (Mv:Nat->Prop) (Step:Nat->Oper->St->St->Prop) (ops:Array Oper):Prop:=∀ i o,ops[i]? = some o->∀ σ aw,Step i o σ aw->∀ w μ a,In w X G μ N a σ->∀ {Q:Exit->Act->World->Prop} {K:Act->World->Prop},(∀ w' ax a',In w' X G ax N a' aw->Ev Mv w μ w' ax->K a' w')->wpOpIn (wd N.ro) 0 P ops Q i K a w
def gP (Step:Nat->Oper->St->St->Prop) (ops:Array Oper):List Nat->St->St->Prop
 | [],σ,aw=>σ=aw
 | i :: l,σ,aw=>∃ o,ops[i]? = some o/\∃ aI,Step i o σ aI/\gP Step ops l aI aw
theorem WT (hsw:s5 Step cp ops) {p:Nat} {op:Oper} (hp:ops[p]? = some op):∀ (l1:List Nat) {l2:List Nat} {σ aw:St},(∀ q∈l1,∀ oq,ops[q]? = some oq->cp q p oq op=true)->gP Step ops (l1 ++ p :: l2) σ aw->gP Step ops (p :: (l1 ++ l2)) σ aw:=by
 intro l1
 induction l1 with
 | nil=>intro l2 σ aw _ h;exact h
 | cons q l1 ih=>
  intro l2 σ aw bB h;obtain⟨oq,hq,aI,s1,rest⟩:=h;obtain⟨o',eO,eL,s2,py⟩:=ih (fun q' hq'=>bB q' (by simp[hq'])) rest;rw[hp]at eO;obtain rfl:=Option.some.inj eO;obtain⟨e6,f1,f2⟩:=hsw q p oq op hq hp (bB q (by simp) oq hq) σ aI eL s1 s2;exact⟨op,hp,e6,f1,oq,hq,eL,f2,py⟩
def qG (cp:Nat->Nat->Oper->Oper->Bool) (ord:List Nat) (ops:Array Oper):Bool:=
 let t:=tb ops
 ord.length == ops.size && (ord.all fun i=>decide (i < ops.size)) && ((List.range ops.size).all fun i=>ord.contains i) && decide ord.Nodup &&
 ((List.range ops.size).all fun j=>match ops[j]? with
  | some oj=>oj.after.all fun e=>!Region.binds .any e || e.on < j
  | none=>true) &&
 go t ord
where
 go (t:List Nat):List Nat->Bool
 | []=>true
 | a :: l=>(l.all fun b=>match ops[a]?,ops[b]? with
  | some oa,some ob=>(oa.after.all fun e=>!Region.binds .any e || !(e.on == b)) && ((t.getD b 0).testBit a || cp a b oa ob)
  | _,_=>true) && go t l
def AQ (cp:Nat->Nat->Oper->Oper->Bool) (ops:Array Oper) (a b:Nat):Prop:=∀ oa ob,ops[a]? = some oa->ops[b]? = some ob->
 (∀ e∈oa.after,Region.binds .any e=true->e.on≠b)/\(((tb ops).getD b 0).testBit a=true\/cp a b oa ob=true)
theorem JJ:∀ {l:List Nat},qG.go cp ops (tb ops) l=true->l.Pairwise (AQ cp ops)
 | [],_=>.nil
 | a :: l,h=>by
  simp only[qG.go,Bool.and_eq_true]at h;refine .cons (fun b hb oa ob pb hob=>?_) (JJ h.2);have:=List.all_eq_true.1 h.1 b hb;simp only[pb,hob,Bool.and_eq_true,Bool.or_eq_true]at this;refine⟨fun e he oS heq=>?_,this.2⟩;have h1:=Array.all_eq_true_iff_forall_mem.1 this.1 e he;simp[oS,heq]at h1
theorem Ml (cZ:Sound P X G N Mv Step ops) (hsw:s5 Step cp ops) (ay:∀ j oj,ops[j]? = some oj->∀ e∈oj.after,Region.binds .any e=true->e.on < j) {Q:Exit->St->Prop} {w0:World} {gm:Mu} {σn:St} (hQ:Q .normal σn):∀ (n:Nat) (R:List Nat) (listed:Array Bool) (w:World) (μ:Mu) (a:Act) (σ:St),R.length=n->R.Nodup->
  (∀ j,j∈R↔j < ops.size/\listed.getD j true=false)->listed.size=ops.size->R.Pairwise (AQ cp ops)->
  (∀ j oj,ops[j]? = some oj->listed.getD j false=true->∀ e∈oj.after,Region.binds .any e=true->listed.getD e.on false=true)->gP Step ops R σ σn->In w X G μ N a σ->Ev Mv w0 gm w μ->
  wpAnyIn (wd N.ro) 0 P .any ops (After Mv X G N w0 gm Q) n listed a w:=by
 intro n
 induction n with
 | zero=>
  intro R listed w μ a σ hl _ hR aK _ _ bR hi aJ;have:R=[]:=List.eq_nil_of_length_eq_zero hl;subst this
  have hr:Region.ready .any ops listed=[]:=by
   apply List.eq_nil_iff_forall_not_mem.2;intro j hj;obtain⟨h1,o,ho,_⟩:=mem_ready.1 hj;exact absurd ((hR j).2 ⟨(Array.getElem?_eq_some_iff.1 ho).1,h1⟩) (by simp)
  have:σ=σn:=bR;subst this;exact⟨hr,μ,σ,hQ,hi,aJ⟩
 | succ n ih=>
  intro R listed w μ a σ hl fe hR aK fL acJ bR hi aJ;refine⟨fun hr=>?_,fun i nc=>?_⟩
  .cases R with
   | nil=>simp at hl
   | cons j R=>
    obtain⟨ia,hj2⟩:=(hR j).1 (by simp)
    have bw:ops[j]? = some ops[j]:=by simp[ia]
    have jN:j∈Region.ready .any ops listed:=by
     refine mem_ready.2 ⟨hj2,ops[j],bw,fun e he hb=>?_⟩;have qj:=ay j ops[j] bw e he hb
     have aaZ:e.on < ops.size:=by omega
     have aO:e.on ∉ (j :: R):=by
      intro hm
      rcases List.mem_cons.1 hm with h | h
      .omega
      .exact ((List.pairwise_cons.1 fL).1 _ h ops[j] ops[e.on] bw (by simp[aaZ])).1 e he hb rfl
     have:=mt (hR e.on).2 aO
     have gX:e.on < listed.size:=by omega
     simp only[aaZ,true_and,Array.getD_eq_getD_getElem?]at this ⊢;simp[gX]at this ⊢;exact this
    rw[hr]at jN;cases jN
  .obtain⟨cO,oi,b5,bB⟩:=mem_ready.1 nc;have na:i∈R:=(hR i).2 ⟨(Array.getElem?_eq_some_iff.1 b5).1,cO⟩;obtain⟨R1,R2,rfl⟩:=List.append_of_mem na
   have mZ:=WT hsw b5 R1 (fun q hq oq jR=>by
    have pc:AQ cp ops q i:=(List.pairwise_append.1 fL).2.2 q hq i (by simp)
    rcases (pc oq oi jR b5).2 with h | h
    .exfalso;have jO:=vl ay acJ i i oi (Nat.le_refl _) b5 bB q h;have dY:=((hR q).1 (by simp[hq])).2
     have nh:q < listed.size:=by have:=(Array.getElem?_eq_some_iff.1 jR).1;omega
     simp[Array.getD_eq_getD_getElem?,nh]at jO dY;rw[jO]at dY;cases dY
    .exact h) bR
   obtain⟨o',eO,aI,hstep,bt⟩:=mZ;rw[b5]at eO;obtain rfl:=Option.some.inj eO;refine cZ i oi b5 _ _ hstep _ _ _ hi fun w' ax a' aF iP=>?_
   have nd:(R1 ++ R2).Nodup:=by
    have:=fe;rw[List.nodup_append]at this ⊢;obtain⟨g1,g2,g3⟩:=this;exact⟨g1,(List.nodup_cons.1 g2).2,fun x hx y hy=>g3 x hx y (by simp[hy])⟩
   have ady:i ∉ R1 ++ R2:=by
    have:=fe;rw[List.nodup_append]at this;obtain⟨g1,g2,g3⟩:=this;intro hm
    rcases List.mem_append.1 hm with h | h
    .exact g3 i h i (by simp) rfl
    .exact (List.nodup_cons.1 g2).1 h
   refine ih (R1 ++ R2) _ w' ax a' aI (by simp at hl ⊢;omega) nd (fun j=>?_) (by simpa using aK) ?_ ?_ bt aF (aJ.trans iP)
   .by_cases hji:j=i
    .subst hji
     have gX:j < listed.size:=by rw[aK];exact (Array.getElem?_eq_some_iff.1 b5).1
     simp[gX];simpa using ady
    .rw[getD_set_ne true (Ne.symm hji)];rw[<- hR j];simp[hji]
   .rw[List.pairwise_append]at fL ⊢;obtain⟨g1,g2,g3⟩:=fL;exact⟨g1,(List.pairwise_cons.1 g2).2,fun x hx y hy=>g3 x hx y (by simp[hy])⟩
   .intro j oj bw dH e he hb;by_cases hji:j=i
    .subst hji;rw[b5]at bw;obtain rfl:=Option.some.inj bw;exact getD_set_true (bB e he hb)
    .rw[getD_set_ne false (Ne.symm hji)]at dH;exact getD_set_true (acJ j oj bw dH e he hb)
theorem Fl (hm:P.follows .mixedOrders=true) (cZ:Sound P X G N Mv Step ops) (hsw:s5 Step cp ops) (ord:List Nat) {id:Nat} (bJ:qG cp ord ops=true) {Q:Exit->St->Prop} {σ:St} (h:(∀ i∈ord,i < ops.size)->∃ σn,Q .normal σn/\gP Step ops ord σ σn):AW P Mv X G N (.region id ops true) Q σ:=fun w μ a hi=>by
 unfold qG at bJ;simp only[Bool.and_eq_true]at bJ;obtain⟨⟨⟨⟨⟨h1,h2⟩,h3⟩,h4⟩,h5⟩,h6⟩:=bJ
 have hlen:ord.length=ops.size:=by simpa using h1
 have ay:∀ i∈ord,i < ops.size:=fun i hi=>by simpa using List.all_eq_true.1 h2 i hi
 have bB:∀ i,i < ops.size->i∈ord:=fun i hi=>by simpa using List.all_eq_true.1 h3 i (List.mem_range.2 hi)
 have fe:ord.Nodup:=by simpa using h4
 have adV:∀ j oj,ops[j]? = some oj->∀ e∈oj.after,Region.binds .any e=true->e.on < j:=fun j oj bw e he hb=>by
  have:=List.all_eq_true.1 h5 j (List.mem_range.2 (Array.getElem?_eq_some_iff.1 bw).1);simp only[bw]at this;have:=Array.all_eq_true_iff_forall_mem.1 this e he;simpa[hb]using this
 obtain⟨σn,hQ,bR⟩:=h ay;refine wpIn_region_any hm ?_;obtain⟨aF,aJ⟩:=hi.j7 (Mv:=Mv) (bY.drew w);refine Ml cZ hsw adV hQ ops.size ord _ w.drew μ a σ hlen fe (fun j=>?_) (by simp) (JJ h6) ?_ bR aF aJ
 .constructor
  .intro hj;have:=ay j hj;simp[Array.getD_eq_getD_getElem?,this]
  .intro hj;exact bB j hj.1
 .intro j oj bw dH;have hj:=(Array.getElem?_eq_some_iff.1 bw).1;simp[Array.getD_eq_getD_getElem?,hj]at dH
def gJ (T:Ty) (ops:Array Oper) (H H2:Heap) (p:Nat×AV):Prop:=match ops[p.1]? with
 | some o=>match o.op with
  | .load t _=>ko T H t p.2=ko T H2 t p.2
  | _=>False
 | none=>False
def lX (G:ao) (ex:List (Nat×AV)) (i:Nat) (o:Oper) (e:Env):Prop:=match ex.lookup i with
 | some pv=>match o.op with
  | .load _ x=>bf G e x=some pv
  | _=>False
 | none=>True
def af3 (P:Program) (T:Ty) (Mv:Nat->Prop) (G:ao) (mvd:List Nat) (ops:Array Oper) (ex:List (Nat×AV)) (o:Oper) (σ aw:St):Prop:=∃ c g xs y H2,cz o.op=some c/\tgt G σ.env c=some (g,xs)/\(∀ r∈mvd,Mv r)/\HC P G mvd g xs σ.H y H2/\(∀ p∈ex,gJ T ops σ.H H2 p)/\acd mvd y/\aw=⟨aD σ.env o.dst y,H2⟩
def qY (P:Program) (T:Ty) (Mv:Nat->Prop) (G:ao) (N:Fr) (mvd db hv:List Nat) (ex:List (Nat×AV)) (ops:Array Oper) (i:Nat) (o:Oper) (σ aw:St):Prop:=
 abF N o/\o.guard=none/\lE mvd σ.env/\((db.contains i=true/\∃ c y,ky T G σ.env o=some (c,y)/\c/\aw=⟨aD σ.env o.dst (.d y),σ.H⟩)\/
  (db.contains i=false/\hv.contains i=true/\af3 P T Mv G mvd ops ex o σ aw)\/
  (db.contains i=false/\hv.contains i=false/\kindOf o.op≠9/\lX G ex i o σ.env/\∃ x H',Ex P T Mv G o σ.env σ.H x H'/\acd mvd x/\aw=⟨aD σ.env o.dst x,H'⟩))
theorem Je (hg:Good P T) (mvd db hv:List Nat) (ex:List (Nat×AV)):Sound P X G N Mv (qY P T Mv G N mvd db hv ex ops) ops:=fun i o ho σ aw h w μ a hi Q K hk=>by
 obtain⟨hd,hgu,gz,h⟩:=h
 have gL:∀ d,o.dst=some d->d < N.n:=fun d e=>by unfold abF at hd;rw[e]at hd;exact hd
 rcases h with⟨_,c,y,h1,h2,rfl⟩ | ⟨_,_,c,g,xs,y,H2,hc,ht,eH,dG,_,_,rfl⟩ | ⟨_,_,h9,_,x,H',h1,_,rfl⟩
 .unfold wpOpIn;simp only[ho];rw[sT hi (ik hgu),if_pos rfl];refine wpR (fun c e=>by simp[ky,e]at h1) ?_;obtain⟨v,w',hr,aF,ft,aJ⟩:=Ga (Mv:=Mv) hg hi h1 h2;unfold Oper.wp;rw[hr];exact hk _ μ _ (aF.put ft gL) aJ
 .unfold wpOpIn;simp only[ho];rw[sT hi (ik hgu),if_pos rfl];refine (yg (Mv:=Mv) (K:=fun aI=>aI=⟨aD σ.env o.dst y,H2⟩) hg hi gL ?_ fun w' ax a' aI e aF aJ=>hk w' ax a' (e ▸ aF) aJ);unfold jH;simp only[hc,ht]
  exact (dG Mv X N σ.env eH gz).mono fun x aw ⟨e1,e2⟩=>by rw[e1,e2]
 .exact uW hg ⟨hd,.inl ⟨ik hgu,h1.to⟩⟩ hi ho hk
def Bi (db hv:List Nat) (ex:List (Nat×AV)) (ops:Array Oper) (i j:Nat) (oi oj:Oper):Bool:=oi.apart ops oj && (db.contains i || db.contains j ||
 (if hv.contains i then !hv.contains j && (kindOf oj.op == 0 || (ex.lookup j).isSome) else if hv.contains j then kindOf oi.op == 0 || (ex.lookup i).isSome else pr (kindOf oi.op) (kindOf oj.op)))
theorem zx {ex:List (Nat×AV)} {i:Nat} {pv:AV} (h:ex.lookup i=some pv):(i,pv)∈ex:=by
 induction ex with
 | nil=>cases h
 | cons p ex ih=>
  rw[List.lookup_cons]at h;split at h
  .rename_i he;obtain rfl:=Option.some.inj h
   have:i=p.1:=by simpa using he
   rw[this];simp
  .exact List.mem_cons_of_mem _ (ih h)
theorem aeK {i:Nat} {o:Oper} (ho:ops[i]? = some o) {ex:List (Nat×AV)} {pv:AV} (hl:ex.lookup i=some pv) {e:Env} {H H2 H':Heap} {x:AV} (cw:lX G ex i o e) (hs:gJ T ops H H2 (i,pv)) (h:Ex P T Mv G o e H x H'):H'=H/\Ex P T Mv G o e H2 x H2:=by
 unfold lX at cw
 rw[hl]at cw
 unfold gJ at hs;simp only[ho]at hs;obtain⟨dst,op,type,pos,after,guard⟩:=o;dsimp only at cw hs
 cases op<;>dsimp only at cw hs<;>try exact cw.elim
 unfold Ex at h ⊢;simp only[cz,eD,rd,Bool.false_eq_true,if_false,cw,Option.bind_some]at h ⊢;obtain⟨c,h1,h2,rfl⟩:=h;exact⟨rfl,c,by rw[<- hs];exact h1,h2,trivial⟩
theorem UR (mvd db hv:List Nat) (ex:List (Nat×AV)):s5 (qY P T Mv G N mvd db hv ex ops) (Bi db hv ex ops) ops:=fun i j oi oj b5 bw hc σ aI eL h1 h2=>by
 simp only[Bi,Bool.and_eq_true]at hc;obtain⟨eX,fX⟩:=hc;obtain⟨di,gi,oE,h1⟩:=h1;obtain⟨dj,gj,_,h2⟩:=h2;have agj:∀ v,fA oj.op (aD σ.env oi.dst v) σ.env:=fun v t ht=>(ace eX (e:=σ.env) (v:=v)).1 t (iF ht);have eT:∀ v,fA oi.op σ.env (aD σ.env oj.dst v):=fun v t ht=>((ace eX (e:=σ.env) (v:=v)).2.1 t (iF ht)).symm;have aO:=(ace eX (e:=σ.env) (v:=cC)).2.2;have tg:∀ {o:Oper} {c:Call} {e e':Env},cz o.op=some c->fA o.op e e'->tgt G e c=tgt G e' c:=fun {o c e e'} hc ha=>uX fun t ht=>ha t (by rw[(qt hc).1];exact ht)
 have lY:∀ {k:Nat} {o:Oper} {e e':Env},fA o.op e e'->lX G ex k o e->lX G ex k o e':=fun {k o e e'} ha h=>by
  unfold lX at h ⊢;split
  .rename_i pv hl;simp only[hl]at h;split
   .rename_i t x hop;simp only[hop]at h;rw[<- abj (x:=x) fun t' qo=>ha t' (by rw[hop,qo];simp[Op.operands])];exact h
   .rename_i fD;split at h
    .rename_i t x hop;exact absurd hop (fD t x)
    .exact h
  .trivial
 rcases h1 with⟨bi,c,y,e1,c1,rfl⟩ | ⟨bi,vi,c,g,xs,y,H2,fJ,ti,eH,hcl,gW,oy,rfl⟩ | ⟨bi,vi,k1,l1,x,H',e1,ox,rfl⟩
 .-- data first
  rcases h2 with⟨bj,c',z,e2,c2,rfl⟩ | ⟨bj,vj,c',g,xs,z,H2,k9,tj,eH,hcl,gW,oz,rfl⟩ | ⟨bj,vj,k2,l2,z,H2,e2,oz,rfl⟩
  .rw[j5 (agj _)]at e2;refine⟨⟨aD σ.env oj.dst (.d z),σ.H⟩,⟨dj,gj,oE,.inl ⟨bj,c',z,e2,c2,rfl⟩⟩,di,gi,oE.put (acd.d _ _) _,.inl ⟨bi,c,y,?_,c1,?_⟩⟩
   .rw[<- j5 (eT _)];exact e1
   .rw[fG aO]
  .rw[tg k9 (agj _)]at tj;refine⟨⟨aD σ.env oj.dst z,H2⟩,⟨dj,gj,oE,.inr (.inl ⟨bj,vj,c',g,xs,z,H2,k9,tj,eH,hcl,gW,oz,rfl⟩)⟩,di,gi,oE.put oz _,.inl ⟨bi,c,y,?_,c1,?_⟩⟩
   .rw[<- j5 (eT _)];exact e1
   .rw[fG aO]
  .refine⟨⟨aD σ.env oj.dst z,H2⟩,⟨dj,gj,oE,.inr (.inr ⟨bj,vj,k2,lY (agj _) l2,z,H2,e2.congr k2 (agj _),oz,rfl⟩)⟩,di,gi,oE.put oz _,.inl ⟨bi,c,y,?_,c1,?_⟩⟩
   .rw[<- j5 (eT _)];exact e1
   .rw[fG aO]
 .-- a call first
  rcases h2 with⟨bj,c',z,e2,c2,rfl⟩ | ⟨bj,vj,_⟩ | ⟨bj,vj,k2,l2,z,H3,e2,oz,rfl⟩
  .rw[j5 (agj _)]at e2;refine⟨⟨aD σ.env oj.dst (.d z),σ.H⟩,⟨dj,gj,oE,.inl ⟨bj,c',z,e2,c2,rfl⟩⟩,di,gi,oE.put (acd.d _ _) _,.inr (.inl ⟨bi,vi,c,g,xs,y,H2,fJ,?_,eH,hcl,gW,oy,?_⟩)⟩
   .rw[<- tg fJ (eT _)];exact ti
   .rw[fG aO]
  .rw[bi,bj,vi]at fX;simp[vj]at fX
   simp_all
  .rw[bi,bj]at fX;have pZ:=e2.congr k2 (agj _);have l2':=lY (agj _) l2
   have hq:H3=H2/\Ex P T Mv G oj σ.env σ.H z σ.H:=by
    have hp:kindOf oj.op=0\/(ex.lookup j).isSome=true:=by
     simp only[Bool.false_or,vi,vj,if_true,Bool.not_false,Bool.true_and]at fX;simpa using fX
    rcases hp with hp | hp
    .exact⟨pZ.keeps (by omega),pZ.free hp σ.H⟩
    .obtain⟨pv,jx⟩:=Option.isSome_iff_exists.1 hp;have hs:=gW _ (zx jx);refine aeK bw jx l2' ?_ pZ;unfold gJ at hs ⊢;simp only[bw]at hs ⊢;split<;>simp_all
   obtain⟨rfl,e3⟩:=hq;refine⟨⟨aD σ.env oj.dst z,σ.H⟩,⟨dj,gj,oE,.inr (.inr ⟨bj,vj,k2,l2',z,σ.H,e3,oz,rfl⟩)⟩,di,gi,oE.put oz _,.inr (.inl ⟨bi,vi,c,g,xs,y,H3,fJ,?_,eH,hcl,gW,oy,?_⟩)⟩
   .rw[<- tg fJ (eT _)];exact ti
   .rw[fG aO]
 .rcases h2 with⟨bj,c',z,e2,c2,rfl⟩ | ⟨bj,vj,c',g,xs,z,H2,k9,tj,eH,hcl,gW,oz,rfl⟩ | ⟨bj,vj,k2,l2,z,H2,e2,oz,rfl⟩
  .rw[j5 (agj _)]at e2;refine⟨⟨aD σ.env oj.dst (.d z),σ.H⟩,⟨dj,gj,oE,.inl ⟨bj,c',z,e2,c2,rfl⟩⟩,di,gi,oE.put (acd.d _ _) _,.inr (.inr ⟨bi,vi,k1,lY (eT _) l1,x,H',e1.congr k1 (eT _),ox,?_⟩)⟩;rw[fG aO]
  .rw[tg k9 (agj _)]at tj;rw[bi,bj]at fX
   have hp:kindOf oi.op=0\/(ex.lookup i).isSome=true:=by
    simp only[Bool.false_or,vi,vj,if_true,Bool.false_eq_true,if_false]at fX;simpa using fX
   have tm:=e1.congr k1 (eT z);have qw:=lY (eT z) l1
   rcases hp with hp | hp
   .obtain rfl:=e1.keeps (by omega);refine⟨⟨aD σ.env oj.dst z,H2⟩,⟨dj,gj,oE,.inr (.inl ⟨bj,vj,c',g,xs,z,H2,k9,tj,eH,hcl,gW,oz,rfl⟩)⟩,di,gi,oE.put oz _,.inr (.inr ⟨bi,vi,k1,qw,x,H2,tm.free hp H2,ox,?_⟩)⟩;rw[fG aO]
   .obtain⟨pv,jx⟩:=Option.isSome_iff_exists.1 hp;have hs:=gW _ (zx jx);have hH:H'=σ.H:=(aeK (H2:=σ.H) b5 jx l1 (by unfold gJ;simp only[b5];unfold gJ at hs;simp only[b5]at hs;split<;>simp_all) e1).1;subst hH;obtain⟨_,e3⟩:=aeK b5 jx qw hs tm;refine⟨⟨aD σ.env oj.dst z,H2⟩,⟨dj,gj,oE,.inr (.inl ⟨bj,vj,c',g,xs,z,H2,k9,tj,eH,hcl,gW,oz,rfl⟩)⟩,di,gi,oE.put oz _,.inr (.inr ⟨bi,vi,k1,qw,x,H2,e3,ox,?_⟩)⟩;rw[fG aO]
  .rw[bi,bj]at fX
   have bW:acf ops oi oj=true:=by simp only[acf,Bool.and_eq_true];simp only[Bool.false_or,vi,vj,Bool.false_eq_true,if_false]at fX;exact⟨eX,fX⟩
   obtain⟨H3,f1,f2⟩:=aes (N:=N) bW ⟨di,.inl ⟨ik gi,e1⟩⟩ ⟨dj,.inl ⟨ik gj,e2⟩⟩ k1 k2
   have un:∀ {o:Oper} {e:Env} {H H':Heap} {x:AV},o.guard=none->Sx P T Mv G N ops o e H x H'->Ex P T Mv G o e H x H':=fun hgu h=>by
    rcases h.2 with⟨_,h⟩ | ⟨hw,_⟩
    .exact h
    .rw[ik hgu]at hw;cases hw
   refine⟨⟨aD σ.env oj.dst z,H3⟩,⟨dj,gj,oE,.inr (.inr ⟨bj,vj,k2,lY (agj _) l2,z,H3,un gj f1,oz,rfl⟩)⟩,di,gi,oE.put oz _,.inr (.inr ⟨bi,vi,k1,lY (eT _) l1,x,H2,un gi f2,ox,?_⟩)⟩;rw[fG aO]
def oW (P:Program) (T:Ty) (Mv:Nat->Prop) (G:ao) (mvd:List Nat) (ops:Array Oper) (ex:List (Nat×AV)) (g:FuncId) (xs:List AV) (σ:St) (dst:Option Tmp) (K:St->Prop):Prop:=∃ y H2,(∀ r∈mvd,Mv r)/\HC P G mvd g xs σ.H y H2/\(∀ p∈ex,gJ T ops σ.H H2 p)/\acd mvd y/\K ⟨aD σ.env dst y,H2⟩
theorem oW.mc {mvd:List Nat} {ex:List (Nat×AV)} {dst:Option Tmp} {K:St->Prop} {fx:List Nat} {g:FuncId} {jZ xs:List AV} {aaO ek:List (Nat×Row)} {y:AV} (hc:MC P G fx g xs (ak aaO) y (ak ek)) (hx:jZ.map (AV.tr (dD (aaO.map (·.1))) (abk (aaO.map (·.1))))=xs)
  (hH:∀ p∈aaO,(σ.H p.1).map (Row.tr (dD (aaO.map (·.1))) (abk (aaO.map (·.1))))=ak aaO p.1) (hd:∀ p∈ek,(aaO.map (·.1)).contains p.1=true\/σ.H p.1=none) (hm:∀ r∈aaO.map (·.1),fx.contains r=false->r∈mvd) (eH:∀ r∈mvd,Mv r) (ho:∀ r∈mvd,y.kill r=y)
  (hl:∀ p∈ex,gJ T ops σ.H (jM (ak ek) (trH (ea (aaO.map (·.1))) (jg (aaO.map (·.1)) fx) (jf (aaO.map (·.1)) fx) σ.H)) p)
  (h:K ⟨aD σ.env dst y,jM (ak ek) (trH (ea (aaO.map (·.1))) (jg (aaO.map (·.1)) fx) (jf (aaO.map (·.1)) fx) σ.H)⟩):oW P T Mv G mvd ops ex g jZ σ dst K:=⟨y,_,eH,.mc hc hx hH hd hm,hl,ho,h⟩
def xg (T:Ty) (G:ao) (Mv:Nat->Prop) (mvd:List Nat) (o:Oper) (σ:St) (next:St->Prop):Prop:=
 if eD o.op then match wr T G Mv σ o with
  | some (c,x,aw)=>c/\(∀ r∈mvd,x.kill r=x)/\next ⟨aD aw.env o.dst x,aw.H⟩
  | none=>False
 else match rd T G σ o.op with
  | some (c,x)=>c/\(∀ r∈mvd,x.kill r=x)/\next ⟨aD σ.env o.dst x,σ.H⟩
  | none=>False
def Aj (P:Program) (T:Ty) (Mv:Nat->Prop) (G:ao) (N:Fr) (mvd db hv:List Nat) (ex:List (Nat×AV)) (ops:Array Oper) (i:Nat) (o:Oper) (σ:St) (K:St->Prop):Prop:=abF N o/\o.guard=none/\
 if db.contains i=true then (match ky T G σ.env o with
  | some (c,y)=>c/\K ⟨aD σ.env o.dst (.d y),σ.H⟩
  | none=>False)
 else if hv.contains i=true then (match cz o.op with
  | some c=>match tgt G σ.env c with
   | some (g,xs)=>oW P T Mv G mvd ops ex g xs σ o.dst K
   | none=>False
  | none=>False)
 else kindOf o.op≠9/\lX G ex i o σ.env/\match cz o.op with
  | some c=>mM P G c σ.env o.dst σ.H [] [] K
  | none=>xg T G Mv mvd o σ K
def xE (P:Program) (T:Ty) (Mv:Nat->Prop) (G:ao) (N:Fr) (mvd db hv:List Nat) (ex:List (Nat×AV)) (ops:Array Oper) (K:St->Prop):List (Nat×Oper)->St->Prop
 | [],σ=>K σ
 | (i,o) :: rest,σ=>Aj P T Mv G N mvd db hv ex ops i o σ (xE P T Mv G N mvd db hv ex ops K rest)
theorem XH {mvd db hv:List Nat} {ex:List (Nat×AV)} {K:St->Prop}:∀ (l:List Nat) (σ:St),(∀ i∈l,i < ops.size)->lE mvd σ.env->xE P T Mv G N mvd db hv ex ops K (aaV ops l) σ->∃ σn,K σn/\gP (qY P T Mv G N mvd db hv ex ops) ops l σ σn:=by
 intro l
 induction l with
 | nil=>intro σ _ _ h;exact⟨σ,h,rfl⟩
 | cons i l ih=>
  intro σ hl gz h;have hi:=hl i (by simp)
  have ho:ops[i]? = some ops[i]:=by simp[hi]
  simp only[aaV,ho]at h;generalize ops[i]=o at ho h;simp only[xE,Aj]at h;obtain⟨hd,hgu,h⟩:=h
  have fin:∀ aI,qY P T Mv G N mvd db hv ex ops i o σ aI->lE mvd aI.env->xE P T Mv G N mvd db hv ex ops K (aaV ops l) aI->∃ σn,K σn/\gP (qY P T Mv G N mvd db hv ex ops) ops (i :: l) σ σn:=fun aI hs hE h1=>by
   obtain⟨σn,hk,hr⟩:=ih aI (fun j hj=>hl j (by simp[hj])) hE h1;exact⟨σn,hk,o,ho,aI,hs,hr⟩
  split at h
  .rename_i hb;split at h
   .rename_i c y hw;obtain⟨hc,h⟩:=h;exact fin _ ⟨hd,hgu,gz,.inl ⟨hb,c,y,hw,hc,rfl⟩⟩ (gz.put (acd.d _ _) _) h
   .exact h.elim
  .rename_i hb
   have hb:db.contains i=false:=by simpa using hb
   split at h
   .rename_i fM;split at h
    .rename_i c hc;split at h
     .rename_i g xs ht;obtain⟨y,H2,h0,h1,h2,h3,h⟩:=h;exact fin _ ⟨hd,hgu,gz,.inr (.inl ⟨hb,fM,c,g,xs,y,H2,hc,ht,h0,h1,h2,h3,rfl⟩)⟩ (gz.put h3 _) h
     .exact h.elim
    .exact h.elim
   .rename_i fM
    have fM:hv.contains i=false:=by simpa using fM
    obtain⟨hk,kH,h⟩:=h;split at h
    .rename_i c hc;obtain⟨y,g,ds,ht,hp,abL,h⟩:=h;refine fin _ ⟨hd,hgu,gz,.inr (.inr ⟨hb,fM,hk,kH,.d y,σ.H,?_,acd.d _ _,rfl⟩)⟩ (gz.put (acd.d _ _) _) h;unfold Ex;simp only[hc];exact⟨y,⟨g,_,ht,.inl ⟨ds,rfl,hp⟩⟩,rfl,trivial⟩
    .rename_i hc;unfold xg at h;split at h
     .rename_i hw;split at h
      .rename_i c x aI h1;obtain⟨bW,abL,h⟩:=h;have he:=aeP hk h1;obtain⟨e,H⟩:=σ;obtain⟨e1,H1⟩:=aI;dsimp only at he;subst he;refine fin _ ⟨hd,hgu,gz,.inr (.inr ⟨hb,fM,hk,kH,x,H1,?_,abL,rfl⟩)⟩ (gz.put abL _) h;unfold Ex;simp only[hc];rw[if_pos hw];exact⟨c,h1,bW⟩
      .exact h.elim
     .rename_i hw;split at h
      .rename_i c x h1;obtain⟨bW,abL,h⟩:=h;refine fin _ ⟨hd,hgu,gz,.inr (.inr ⟨hb,fM,hk,kH,x,σ.H,?_,abL,rfl⟩)⟩ (gz.put abL _) h;unfold Ex;simp only[hc];rw[if_neg hw];exact⟨c,h1,bW,trivial⟩
      .exact h.elim
end
attribute [simp] Aj lX xg
end Go.Av
namespace Go.Av
section
variable {P:Program} {T:Ty} {Mv X:Nat->Prop} {G:ao} {N:Fr} {ops:Array Oper} {σ:St}
def AK (P:Program) (T:Ty) (Mv:Nat->Prop) (G:ao) (N:Fr) (ap db hv:List Nat) (ex:List (Nat×AV)) (ops:Array Oper) (i:Nat) (o:Oper) (σ aw:St):Prop:=
 (ap.contains i=true/\abF N o/\o.guard=none/\cz o.op=none/\eD o.op=true/\∃ c x aI,wr T G Mv σ o=some (c,x,aI)/\c/\aw=⟨aD aI.env o.dst x,aI.H⟩)\/
 (ap.contains i=false/\qY P T Mv G N [] db hv ex ops i o σ aw)
def x4 (ap db hv:List Nat) (ex:List (Nat×AV)) (ops:Array Oper) (i j:Nat) (oi oj:Oper):Bool:=!ap.contains i && !ap.contains j && Bi db hv ex ops i j oi oj
theorem Vc (hg:Good P T) (ap db hv:List Nat) (ex:List (Nat×AV)):Sound P X G N Mv (AK P T Mv G N ap db hv ex ops) ops:=fun i o ho σ aw h w μ a hi Q K hk=>by
 rcases h with⟨_,hd,hgu,hc,hw,c,x,aI,h1,h2,rfl⟩ | ⟨_,h⟩
 .refine uW hg ⟨hd,.inl ⟨ik hgu,?_⟩⟩ hi ho hk;unfold kC;simp only[hc];rw[if_pos hw];exact⟨c,x,aI,h1,h2,rfl⟩
 .exact Je hg [] db hv ex i o ho _ _ h w μ a hi hk
theorem Vd (ap db hv:List Nat) (ex:List (Nat×AV)):s5 (AK P T Mv G N ap db hv ex ops) (x4 ap db hv ex ops) ops:=fun i j oi oj b5 bw hc σ aI eL h1 h2=>by
 simp only[x4,Bool.and_eq_true,Bool.not_eq_true']at hc;obtain⟨⟨ai,aj⟩,hc⟩:=hc
 rcases h1 with⟨bi,_⟩ | ⟨_,h1⟩
 .rw[ai]at bi;cases bi
 rcases h2 with⟨bj,_⟩ | ⟨_,h2⟩
 .rw[aj]at bj;cases bj
 obtain⟨e6,f1,f2⟩:=UR [] db hv ex i j oi oj b5 bw hc σ aI eL h1 h2;exact⟨e6,.inr ⟨aj,f1⟩,.inr ⟨ai,f2⟩⟩
def xB (P:Program) (T:Ty) (Mv:Nat->Prop) (G:ao) (N:Fr) (ap db hv:List Nat) (ex:List (Nat×AV)) (ops:Array Oper) (i:Nat) (o:Oper) (σ:St) (K:St->Prop):Prop:=
 if ap.contains i=true then abF N o/\o.guard=none/\cz o.op=none/\eD o.op=true/\match wr T G Mv σ o with
  | some (c,x,aI)=>c/\K ⟨aD aI.env o.dst x,aI.H⟩
  | none=>False
 else Aj P T Mv G N [] db hv ex ops i o σ K
def pD (P:Program) (T:Ty) (Mv:Nat->Prop) (G:ao) (N:Fr) (ap db hv:List Nat) (ex:List (Nat×AV)) (ops:Array Oper) (K:St->Prop):List (Nat×Oper)->St->Prop
 | [],σ=>K σ
 | (i,o) :: rest,σ=>xB P T Mv G N ap db hv ex ops i o σ (pD P T Mv G N ap db hv ex ops K rest)
theorem XC {ap db hv:List Nat} {ex:List (Nat×AV)} {K:St->Prop}:∀ (l:List Nat) (σ:St),(∀ i∈l,i < ops.size)->pD P T Mv G N ap db hv ex ops K (aaV ops l) σ->∃ σn,K σn/\gP (AK P T Mv G N ap db hv ex ops) ops l σ σn:=by
 intro l
 induction l with
 | nil=>intro σ _ h;exact⟨σ,h,rfl⟩
 | cons i l ih=>
  intro σ hl h;have hi:=hl i (by simp)
  have ho:ops[i]? = some ops[i]:=by simp[hi]
  have aF:aaV ops (i :: l)=(i,ops[i]) :: aaV ops l:=by simp[aaV,hi]
  rw[aF]at h;have h:xB P T Mv G N ap db hv ex ops i ops[i] σ (pD P T Mv G N ap db hv ex ops K (aaV ops l)):=h;unfold xB at h;split at h
  .rename_i ha;obtain⟨hd,hgu,hc,hw,h⟩:=h;split at h
   .rename_i c x aI h1;obtain⟨bW,h⟩:=h;obtain⟨σn,hk,hr⟩:=ih _ (fun j hj=>hl j (by simp[hj])) h;exact⟨σn,hk,_,ho,_,.inl ⟨ha,hd,hgu,hc,hw,c,x,aI,h1,bW,rfl⟩,hr⟩
   .exact h.elim
  .rename_i ha
   have Qw:aaV ops [i]=[(i,ops[i])]:=by simp[aaV,hi]
   have hm:xE P T Mv G N [] db hv ex ops (pD P T Mv G N ap db hv ex ops K (aaV ops l)) (aaV ops [i]) σ:=by rw[Qw];exact h
   obtain⟨aI,bg,o',eO,YR,hs,rX⟩:=XH [i] σ (by simpa using hi) (fun r hr=>by cases hr) hm;have rX:YR=aI:=rX;subst rX;obtain⟨σn,hk,hr⟩:=ih _ (fun j hj=>hl j (by simp[hj])) bg;exact⟨σn,hk,o',eO,_,.inr ⟨by simpa using ha,hs⟩,hr⟩
theorem LX (hg:Good P T) (hm:P.follows .mixedOrders=true) (ap db hv:List Nat) (ex:List (Nat×AV)) (ord:List Nat) {id:Nat} (bJ:qG (x4 ap db hv ex ops) ord ops=true) {Q:Exit->St->Prop} (h:pD P T Mv G N ap db hv ex ops (fun aw=>Q .normal aw) (aaV ops ord) σ):AW P Mv X G N (.region id ops true) Q σ:=
 Fl hm (Vc hg ap db hv ex) (Vd ap db hv ex) ord bJ fun ay=>XC ord σ ay h
theorem afG (hg:Good P T) (hm:P.follows .mixedOrders=true) (ap db hv:List Nat) (ex:List (Nat×AV)) (ord:List Nat) {id:Nat} (bJ:qG (x4 ap db hv ex ops) ord ops=true) {Q:Exit->St->Prop}
  (h:∀ K:St->Prop,(∀ τ:St,Q .normal τ->K τ)->pD P T Mv G N ap db hv ex ops K (aaV ops ord) σ):AW P Mv X G N (.region id ops true) Q σ:=LX hg hm ap db hv ex ord bJ (h _ fun _ h=>h)
theorem jD {ap db hv:List Nat} {ex:List (Nat×AV)} {K:St->Prop} {i:Nat} {l:List Nat} {o:Oper} (ho:ops[i]? = some o) (h:∀ K':St->Prop,(∀ τ,pD P T Mv G N ap db hv ex ops K (aaV ops l) τ->K' τ)->xB P T Mv G N ap db hv ex ops i o σ K'):pD P T Mv G N ap db hv ex ops K (aaV ops (i :: l)) σ:=by
 have:aaV ops (i :: l)=(i,o) :: aaV ops l:=by simp[aaV,ho]
 rw[this];exact h _ fun _ h=>h
theorem Lf {ap db hv:List Nat} {ex:List (Nat×AV)} {K:St->Prop} (h:K σ):pD P T Mv G N ap db hv ex ops K (aaV ops []) σ:=h
end
attribute [simp] xB
