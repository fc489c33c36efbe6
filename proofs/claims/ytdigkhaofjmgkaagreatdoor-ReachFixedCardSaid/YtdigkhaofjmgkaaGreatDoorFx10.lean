/- Parts. -/
import Derived.Test.YtdigkhaofjmgkaaGreatDoorFx9
import Derived.Scope
set_option linter.unusedSectionVars false
set_option linter.unusedSimpArgs false
set_option linter.unusedVariables false
namespace Go.Av
def KF (Q:Exit->St->Prop):Exit->St->Prop
 | .goto _,_=>False
 | e,σ=>Q e σ
section
variable {P:Program} {Mv X:Nat->Prop} {G:aq} {N:Fr} {σ:St}
theorem Gy {n:Nat} {ds:List Deferred} {c:Code} {Q:Exit->St->Prop} (h:AW P Mv X G ⟨n,ds,none⟩ c (KF Q) σ):AW P Mv X G ⟨n,ds,none⟩ (.scope c) Q σ:=fun w μ a hi=>
 (wpIn_wide (n:=0)).2 <| wp_scope_straight (wp_mono ((wpIn_wide (n:=0)).1 (h w μ a hi)) fun e a' w' ⟨ay,aw,q,i,ev⟩=>by
  cases e with
  | goto l=>exact q.elim
  | _=>exact⟨ay,aw,q,i,ev⟩)
end
attribute [simp] KF
end Go.Av
namespace Go.Av
section
variable {P:Program} {T:Ty} {Mv X:Nat->Prop} {G:aq} {N:Fr} {w:World} {μ:Mu} {a:Act} {σ:St}
def lS (mvd:List Nat) (e:Env):Prop:=∀ r∈mvd,cN r e=e
def adz (mvd:List Nat) (x:AV):Prop:=∀ r∈mvd,x.kill r=x
theorem lS.put {mvd:List Nat} {e:Env} (h:lS mvd e) {x:AV} (hx:adz mvd x) (d:Option Tmp):lS mvd (aD e d x):=fun r hr=>by rw[Af,h r hr,hx r hr]
theorem adz.d (mvd:List Nat) (y:D):adz mvd (.d y):=fun _ _=>rfl
theorem RV.off {w':World} {ay:Mu} {mvd:List Nat} (aH:Ev (fun r=>r∈mvd) w μ w' ay):∀ {v:Value} {x:AV},RV w X μ v x->adz mvd x->RV w' X ay v x:=by
 intro v x hr;have ne:∀ {q:Nat},(∀ r∈mvd,¬ q=r)->∀ m,μ q=some m->ay q=some m:=fun h m hm=>aH.kept _ m hm fun adJ=>h _ adJ rfl
 have sub:∀ {l:List AV},(∀ r∈mvd,AV.kill.go r l=l)->∀ (j:Nat) (c:AV),l[j]? = some c->adz mvd c:=fun {l} h j c hc r hr=>by
  have:=h r hr;rw[AV.go_eq]at this;have h2:=congrArg (fun l:List AV=>l[j]?) this;simp only[abM,hc,acN,AS]at h2;exact h2
 induction hr with
 | d h'=>intro _;exact .d (h'.ev aH)
 | own hm h'=>
  intro ho;refine .own (ne (fun r hr e=>?_) _ hm) h';have:=ho r hr;simp[AV.kill,e]at this
 | ref hm hb=>
  intro ho;refine .ref (ne (fun r hr e=>?_) _ hm) hb;have:=ho r hr;simp[AV.kill,e]at this
 | agg hn _ ih=>
  intro ho;exact .agg hn fun j u c hu hc=>ih j u c hu hc (sub (fun r hr=>by have:=ho r hr;simpa[AV.kill]using this) j c hc)
 | aW hn _ ih=>
  intro ho;exact .aW hn fun j u c hu hc=>ih j u c hu hc (sub (fun r hr=>by have:=ho r hr;simpa[AV.kill]using this) j c hc)
 | bt _ ih=>intro ho;exact .bt (ih fun r hr=>by have:=ho r hr;simpa[AV.kill]using this)
 | bm _ ih=>intro ho;exact .bm (ih fun r hr=>by have:=ho r hr;simpa[AV.kill]using this)
 | fn hn _ ih=>
  intro ho;exact .fn hn fun j u c hu hc=>ih j u c hu hc (sub (fun r hr=>by have:=ho r hr;simpa[AV.kill]using this) j c hc)
 | mp hm hb=>
  intro ho;refine .mp (ne (fun r hr e=>?_) _ hm) hb;have:=ho r hr;simp[AV.kill,e]at this
 | dead u=>intro _;exact .dead u
def HC (P:Program) (G:aq) (mvd:List Nat) (g:FuncId) (xs:List AV) (H:Heap) (y:AV) (H2:Heap):Prop:=∀ (Mv X:Nat->Prop) (N:Fr) (e:Env),(∀ r∈mvd,Mv r)->lS mvd e->ad6 P Mv X G N g xs ⟨e,H⟩ fun x aw=>x=y/\aw=⟨e,H2⟩
theorem HC.of {mvd:List Nat} {g:FuncId} {xs:List AV} {H H2:Heap} {y:AV} (h:∀ (X:Nat->Prop) (N:Fr) (e:Env),ad6 P (fun r=>r∈mvd) X G N g xs ⟨e,H⟩ fun x aw=>x=y/\aw.H=H2):HC P G mvd g xs H y H2:=fun Mv X N e eG ac8=>by
 refine⟨(h X N e).1,fun w μ a vs hi hn hv=>((h X N e).2 w μ a vs hi hn hv).mono fun e' w' ⟨v,x,aw,ay,he,⟨xu,hH⟩,aF,hr,aH⟩=>?_⟩;subst hH;refine⟨v,x,⟨e,aw.H⟩,ay,he,⟨xu,rfl⟩,⟨aF.aX,⟨hi.env.defers,hi.env.size,fun i z hz=>?_⟩,aF.gr⟩,hr,aH.weaken fun r _ _ h=>eG r h⟩;obtain⟨u,hu,xj⟩:=hi.env.slot i z hz;refine⟨u,hu,RV.off aH xj fun r hr=>?_⟩;have h1:=congrFun (ac8 r hr) i;replace hz:e i=some z:=hz;simpa[cN,hz]using h1
theorem HC.mc {mvd:List Nat} {fx:List Nat} {g:FuncId} {j1 xs:List AV} {H:Heap} {bN eg:List (Nat×Row)} {y:AV} (hc:MC P G fx g xs (ak bN) y (ak eg)) (hx:j1.map (AV.tr (acH (bN.map (·.1))) (acG (bN.map (·.1))))=xs)
  (hH:∀ p∈bN,(H p.1).map (Row.tr (acH (bN.map (·.1))) (acG (bN.map (·.1))))=ak bN p.1) (hd:∀ p∈eg,(bN.map (·.1)).contains p.1=true\/H p.1=none) (hm:∀ r∈bN.map (·.1),fx.contains r=false->r∈mvd) :
  HC P G mvd g j1 H y (jN (ak eg) (trH (dZ (bN.map (·.1))) (ji (bN.map (·.1)) fx) (jh (bN.map (·.1)) fx) H)):=.of fun X N e=>by
 refine ad6.As hc hx (funext (Bb hH)).symm (fun q hq=>?_) (fun r hr=>hm r (acY.1 hr)) ⟨rfl,rfl⟩
 have adJ:∀ l:List (Nat×Row),(ak l q).isSome=true->∃ p∈l,p.1=q:=by
  intro l
  induction l with
  | nil=>intro h;simp[ak]at h
  | cons p l ih=>
   intro h;simp only[ak,List.lookup]at h
   cases hqp:(q == p.1) with
   | true=>exact⟨p,by simp,by simpa using (beq_iff_eq.1 hqp).symm⟩
   | false=>
    rw[hqp]at h;obtain⟨p',h1,h2⟩:=ih h;exact⟨p',by simp[h1],h2⟩
 obtain⟨p,hp,rfl⟩:=adJ eg hq;exact hd p hp
variable {ops:Array Oper} {Step:Nat->Oper->St->St->Prop} {cp:Nat->Nat->Oper->Oper->Bool}
def tC (Step:Nat->Oper->St->St->Prop) (cp:Nat->Nat->Oper->Oper->Bool) (ops:Array Oper):Prop:=∀ i j oi oj,ops[i]? = some oi->ops[j]? = some oj->cp i j oi oj=true->∀ σ aG eL,Step i oi σ aG->Step j oj aG eL->∃ fc,Step j oj σ fc/\Step i oi fc eL
def Sound (P:Program) (X:Nat->Prop) (G:aq) (N:Fr) (Mv:Nat->Prop) (Step:Nat->Oper->St->St->Prop) (ops:Array Oper):Prop:=∀ i o,ops[i]? = some o->∀ σ aw,Step i o σ aw->∀ w μ a,In w X G μ N a σ->∀ {Q:Exit->Act->World->Prop} {K:Act->World->Prop},(∀ w' ay a',In w' X G ay N a' aw->Ev Mv w μ w' ay->K a' w')->wpOpIn (wd N.ro) 0 P ops Q i K a w
def gS (Step:Nat->Oper->St->St->Prop) (ops:Array Oper):List Nat->St->St->Prop
 | [],σ,aw=>σ=aw
 | i :: l,σ,aw=>∃ o,ops[i]? = some o/\∃ aG,Step i o σ aG/\gS Step ops l aG aw
theorem Ys (uJ:tC Step cp ops) {p:Nat} {op:Oper} (hp:ops[p]? = some op):∀ (l1:List Nat) {l2:List Nat} {σ aw:St},(∀ q∈l1,∀ oq,ops[q]? = some oq->cp q p oq op=true)->gS Step ops (l1 ++ p :: l2) σ aw->gS Step ops (p :: (l1 ++ l2)) σ aw:=by
 intro l1
 induction l1 with
 | nil=>intro l2 σ aw _ h;exact h
 | cons q l1 ih=>
  intro l2 σ aw bC h;obtain⟨oq,hq,aG,s1,rest⟩:=h;obtain⟨o',ho',eL,s2,p3⟩:=ih (fun q' hq'=>bC q' (by simp[hq'])) rest;rw[hp]at ho';obtain rfl:=AI ho';obtain⟨fc,f1,f2⟩:=uJ q p oq op hq hp (bC q (by simp) oq hq) σ aG eL s1 s2;exact⟨op,hp,fc,f1,oq,hq,eL,f2,p3⟩
def afx (cp:Nat->Nat->Oper->Oper->Bool) (ord:List Nat) (ops:Array Oper):Bool:=
 let t:=tb ops
 ord.length == ops.size && (ord.all fun i=>decide (i < ops.size)) && ((List.range ops.size).all fun i=>ord.contains i) && decide ord.Nodup &&
 ((List.range ops.size).all fun j=>match ops[j]? with
  | some oj=>oj.after.all fun e=>!Region.binds .any e || e.on < j
  | none=>true) &&
 go t ord
where
 go (t:List Nat):List Nat->Bool
 | []=>true
 | a :: l=>(l.all fun b=>match ops[a]?,ops[b]? with
  | some oa,some ob=>(oa.after.all fun e=>!Region.binds .any e || !(e.on == b)) && ((t.getD b 0).testBit a || cp a b oa ob)
  | _,_=>true) && go t l
def BO (cp:Nat->Nat->Oper->Oper->Bool) (ops:Array Oper) (a b:Nat):Prop:=∀ oa ob,ops[a]? = some oa->ops[b]? = some ob->
 (∀ e∈oa.after,Region.binds .any e=true->e.on≠b)/\(((tb ops).getD b 0).testBit a=true\/cp a b oa ob=true)
theorem KU:∀ {l:List Nat},afx.go cp ops (tb ops) l=true->l.Pairwise (BO cp ops)
 | [],_=>.nil
 | a :: l,h=>by
  simp only[afx.go,abI]at h;refine .cons (fun b hb oa ob pO nF=>?_) (KU h.2);have:=ack.1 h.1 b hb;simp only[pO,nF,abI,acI]at this;refine⟨fun e he px heq=>?_,this.2⟩;have h1:=acr.1 this.1 e he;simp[px,heq]at h1
theorem aht (cU:Sound P X G N Mv Step ops) (uJ:tC Step cp ops) (au:∀ j oj,ops[j]? = some oj->∀ e∈oj.after,Region.binds .any e=true->e.on < j) {Q:Exit->St->Prop} {w0:World} {gn:Mu} {σn:St} (hQ:Q .normal σn):∀ (n:Nat) (R:List Nat) (listed:Array Bool) (w:World) (μ:Mu) (a:Act) (σ:St),R.length=n->R.Nodup->
  (∀ j,j∈R↔j < ops.size/\listed.getD j true=false)->listed.size=ops.size->R.Pairwise (BO cp ops)->
  (∀ j oj,ops[j]? = some oj->listed.getD j false=true->∀ e∈oj.after,Region.binds .any e=true->listed.getD e.on false=true)->gS Step ops R σ σn->In w X G μ N a σ->Ev Mv w0 gn w μ->
  wpAnyIn (wd N.ro) 0 P .any ops (After Mv X G N w0 gn Q) n listed a w:=by
 intro n
 induction n with
 | zero=>
  intro R listed w μ a σ hl _ hR aK _ _ ab6 hi aH;have:R=[]:=acq hl;subst this
  have hr:Region.ready .any ops listed=[]:=by
   apply adj.2;intro j hj;obtain⟨h1,o,ho,_⟩:=mem_ready.1 hj;exact absurd ((hR j).2 ⟨(IS.1 ho).1,h1⟩) (by simp)
  have:σ=σn:=ab6;subst this;exact⟨hr,μ,σ,hQ,hi,aH⟩
 | succ n ih=>
  intro R listed w μ a σ hl fi hR aK fN ie ab6 hi aH;refine⟨fun hr=>?_,fun i hir=>?_⟩
  .cases R with
   | nil=>simp at hl
   | cons j R=>
    obtain⟨ig,hj2⟩:=(hR j).1 (by simp)
    have bu:ops[j]? = some ops[j]:=by simp[ig]
    have jO:j∈Region.ready .any ops listed:=by
     refine mem_ready.2 ⟨hj2,ops[j],bu,fun e he hb=>?_⟩;have qS:=au j ops[j] bu e he hb
     have cr:e.on < ops.size:=by omega
     have aI:e.on ∉ (j :: R):=by
      intro hm
      rcases abV.1 hm with h | h
      .omega
      .exact ((acA.1 fN).1 _ h ops[j] ops[e.on] bu (by simp[cr])).1 e he hb rfl
     have:=mt (hR e.on).2 aI
     have fY:e.on < listed.size:=by omega
     simp only[cr,true_and,IT]at this ⊢;simp[fY]at this ⊢;exact this
    rw[hr]at jO;cases jO
  .obtain⟨hi1,oi,b7,bC⟩:=mem_ready.1 hir;have ny:i∈R:=(hR i).2 ⟨(IS.1 b7).1,hi1⟩;obtain⟨R1,R2,rfl⟩:=aem ny
   have aeW:=Ys uJ b7 R1 (fun q hq oq jQ=>by
    have pP:BO cp ops q i:=(acE.1 fN).2.2 q hq i (by simp)
    rcases (pP oq oi jQ b7).2 with h | h
    .exfalso;have jP:=vT au ie i i oi (abL _) b7 bC q h;have eS:=((hR q).1 (by simp[hq])).2
     have nI:q < listed.size:=by have:=(IS.1 jQ).1;omega
     simp[IT,nI]at jP eS;rw[jP]at eS;cases eS
    .exact h) ab6
   obtain⟨o',ho',aG,hstep,b9⟩:=aeW;rw[b7]at ho';obtain rfl:=AI ho';refine cU i oi b7 _ _ hstep _ _ _ hi fun w' ay a' aF iU=>?_
   have nD:(R1 ++ R2).Nodup:=by
    have:=fi;rw[ac2]at this ⊢;obtain⟨g1,g2,g3⟩:=this;exact⟨g1,(acF.1 g2).2,fun x hx y hy=>g3 x hx y (by simp[hy])⟩
   have nz:i ∉ R1 ++ R2:=by
    have:=fi;rw[ac2]at this;obtain⟨g1,g2,g3⟩:=this;intro hm
    rcases ab4.1 hm with h | h
    .exact g3 i h i (by simp) rfl
    .exact (acF.1 g2).1 h
   refine ih (R1 ++ R2) _ w' ay a' aG (by simp at hl ⊢;omega) nD (fun j=>?_) (by simpa using aK) ?_ ?_ b9 aF (aH.trans iU)
   .by_cases hji:j=i
    .subst hji
     have fY:j < listed.size:=by rw[aK];exact (IS.1 b7).1
     simp[fY];simpa using nz
    .rw[getD_set_ne true (adr hji)];rw[<- hR j];simp[hji]
   .rw[acE]at fN ⊢;obtain⟨g1,g2,g3⟩:=fN;exact⟨g1,(acA.1 g2).2,fun x hx y hy=>g3 x hx y (by simp[hy])⟩
   .intro j oj bu dK e he hb;by_cases hji:j=i
    .subst hji;rw[b7]at bu;obtain rfl:=AI bu;exact getD_set_true (bC e he hb)
    .rw[getD_set_ne false (adr hji)]at dK;exact getD_set_true (ie j oj bu dK e he hb)
theorem Gw (hm:P.follows .mixedOrders=true) (cU:Sound P X G N Mv Step ops) (uJ:tC Step cp ops) (ord:List Nat) {id:Nat} (hok:afx cp ord ops=true) {Q:Exit->St->Prop} {σ:St} (h:(∀ i∈ord,i < ops.size)->∃ σn,Q .normal σn/\gS Step ops ord σ σn):AW P Mv X G N (.region id ops true) Q σ:=fun w μ a hi=>by
 unfold afx at hok;simp only[abI]at hok;obtain⟨⟨⟨⟨⟨h1,h2⟩,h3⟩,h4⟩,h5⟩,h6⟩:=hok
 have hlen:ord.length=ops.size:=by simpa using h1
 have au:∀ i∈ord,i < ops.size:=fun i hi=>by simpa using ack.1 h2 i hi
 have bC:∀ i,i < ops.size->i∈ord:=fun i hi=>by simpa using ack.1 h3 i (acW.2 hi)
 have fi:ord.Nodup:=by simpa using h4
 have pG:∀ j oj,ops[j]? = some oj->∀ e∈oj.after,Region.binds .any e=true->e.on < j:=fun j oj bu e he hb=>by
  have:=ack.1 h5 j (acW.2 (IS.1 bu).1);simp only[bu]at this;have:=acr.1 this e he;simpa[hb]using this
 obtain⟨σn,hQ,ab6⟩:=h au;refine wpIn_region_any hm ?_;obtain⟨aF,aH⟩:=hi.j8 (Mv:=Mv) (bZ.drew w);refine aht cU uJ pG hQ ops.size ord _ w.drew μ a σ hlen fi (fun j=>?_) (by simp) (KU h6) ?_ ab6 aF aH
 .constructor
  .intro hj;have:=au j hj;simp[IT,this]
  .intro hj;exact bC j hj.1
 .intro j oj bu dK;have hj:=(IS.1 bu).1;simp[IT,hj]at dK
def gL (T:Ty) (ops:Array Oper) (H H2:Heap) (p:Nat×AV):Prop:=match ops[p.1]? with
 | some o=>match o.op with
  | .load t _=>aef T H t p.2=aef T H2 t p.2
  | _=>False
 | none=>False
def mb (G:aq) (ex:List (Nat×AV)) (i:Nat) (o:Oper) (e:Env):Prop:=match ex.lookup i with
 | some pv=>match o.op with
  | .load _ x=>bh G e x=some pv
  | _=>False
 | none=>True
def Nh (P:Program) (T:Ty) (Mv:Nat->Prop) (G:aq) (mvd:List Nat) (ops:Array Oper) (ex:List (Nat×AV)) (o:Oper) (σ aw:St):Prop:=∃ c g xs y H2,acm o.op=some c/\tgt G σ.env c=some (g,xs)/\(∀ r∈mvd,Mv r)/\HC P G mvd g xs σ.H y H2/\(∀ p∈ex,gL T ops σ.H H2 p)/\adz mvd y/\aw=⟨aD σ.env o.dst y,H2⟩
def rH (P:Program) (T:Ty) (Mv:Nat->Prop) (G:aq) (N:Fr) (mvd db hv:List Nat) (ex:List (Nat×AV)) (ops:Array Oper) (i:Nat) (o:Oper) (σ aw:St):Prop:=
 eU N o/\o.guard=none/\lS mvd σ.env/\((db.contains i=true/\∃ c y,kA T G σ.env o=some (c,y)/\c/\aw=⟨aD σ.env o.dst (.d y),σ.H⟩)\/
  (db.contains i=false/\hv.contains i=true/\Nh P T Mv G mvd ops ex o σ aw)\/
  (db.contains i=false/\hv.contains i=false/\kindOf o.op≠9/\mb G ex i o σ.env/\∃ x H',Ex P T Mv G o σ.env σ.H x H'/\adz mvd x/\aw=⟨aD σ.env o.dst x,H'⟩))
theorem Kr (hg:Good P T) (mvd db hv:List Nat) (ex:List (Nat×AV)):Sound P X G N Mv (rH P T Mv G N mvd db hv ex ops) ops:=fun i o ho σ aw h w μ a hi Q K hk=>by
 obtain⟨hd,hgu,gA,h⟩:=h
 have gN:∀ d,o.dst=some d->d < N.n:=fun d e=>by unfold eU at hd;rw[e]at hd;exact hd
 rcases h with⟨_,c,y,h1,h2,rfl⟩ | ⟨_,_,c,g,xs,y,H2,hc,ht,eG,dJ,_,_,rfl⟩ | ⟨_,_,h9,_,x,H',h1,_,rfl⟩
 .unfold wpOpIn;simp only[ho];rw[afU hi (ir hgu),if_pos rfl];refine vD (fun c e=>by simp[kA,e]at h1) ?_;obtain⟨v,w',hr,aF,fv,aH⟩:=Ho (Mv:=Mv) hg hi h1 h2;unfold Oper.wp;rw[hr];exact hk _ μ _ (aF.put fv gN) aH
 .unfold wpOpIn;simp only[ho];rw[afU hi (ir hgu),if_pos rfl];refine (y3 (Mv:=Mv) (K:=fun aG=>aG=⟨aD σ.env o.dst y,H2⟩) hg hi gN ?_ fun w' ay a' aG e aF aH=>hk w' ay a' (e ▸ aF) aH);unfold jJ;simp only[hc,ht]
  exact (dJ Mv X N σ.env eG gA).mono fun x aw ⟨e1,e2⟩=>by rw[e1,e2]
 .exact vv hg ⟨hd,.inl ⟨ir hgu,h1.to⟩⟩ hi ho hk
def Ch (db hv:List Nat) (ex:List (Nat×AV)) (ops:Array Oper) (i j:Nat) (oi oj:Oper):Bool:=oi.apart ops oj && (db.contains i || db.contains j ||
 (if hv.contains i then !hv.contains j && (kindOf oj.op == 0 || (ex.lookup j).isSome) else if hv.contains j then kindOf oi.op == 0 || (ex.lookup i).isSome else p0 (kindOf oi.op) (kindOf oj.op)))
theorem Au {ex:List (Nat×AV)} {i:Nat} {pv:AV} (h:ex.lookup i=some pv):(i,pv)∈ex:=by
 induction ex with
 | nil=>cases h
 | cons p ex ih=>
  rw[List.lookup_cons]at h;split at h
  .rename_i he;obtain rfl:=AI h
   have:i=p.1:=by simpa using he
   rw[this];simp
  .exact List.mem_cons_of_mem _ (ih h)
theorem uU {i:Nat} {o:Oper} (ho:ops[i]? = some o) {ex:List (Nat×AV)} {pv:AV} (hl:ex.lookup i=some pv) {e:Env} {H H2 H':Heap} {x:AV} (hat:mb G ex i o e) (hs:gL T ops H H2 (i,pv)) (h:Ex P T Mv G o e H x H'):H'=H/\Ex P T Mv G o e H2 x H2:=by
 unfold mb at hat
 rw[hl]at hat
 unfold gL at hs;simp only[ho]at hs;obtain⟨dst,op,type,pos,after,guard⟩:=o;dsimp only at hat hs
 cases op<;>dsimp only at hat hs<;>try exact hat.elim
 unfold Ex at h ⊢;simp only[acm,acS,rd,abT,if_false,hat,ae5]at h ⊢;obtain⟨c,h1,h2,rfl⟩:=h;exact⟨rfl,c,by rw[<- hs];exact h1,h2,trivial⟩
theorem UT (mvd db hv:List Nat) (ex:List (Nat×AV)):tC (rH P T Mv G N mvd db hv ex ops) (Ch db hv ex ops) ops:=fun i j oi oj b7 bu hc σ aG eL h1 h2=>by
 simp only[Ch,abI]at hc;obtain⟨hap,acO⟩:=hc;obtain⟨di,gi,oE,h1⟩:=h1;obtain⟨dj,gj,_,h2⟩:=h2;have agj:∀ v,fB oj.op (aD σ.env oi.dst v) σ.env:=fun v t ht=>(adA hap (e:=σ.env) (v:=v)).1 t (iK ht);have eX:∀ v,fB oi.op σ.env (aD σ.env oj.dst v):=fun v t ht=>((adA hap (e:=σ.env) (v:=v)).2.1 t (iK ht)).symm;have aI:=(adA hap (e:=σ.env) (v:=cy)).2.2;have tg:∀ {o:Oper} {c:Call} {e e':Env},acm o.op=some c->fB o.op e e'->tgt G e c=tgt G e' c:=fun {o c e e'} hc ha=>vw fun t ht=>ha t (by rw[(afr hc).1];exact ht)
 have lda:∀ {k:Nat} {o:Oper} {e e':Env},fB o.op e e'->mb G ex k o e->mb G ex k o e':=fun {k o e e'} ha h=>by
  unfold mb at h ⊢;split
  .rename_i pv hl;simp only[hl]at h;split
   .rename_i t x hop;simp only[hop]at h;rw[<- dw (x:=x) fun t' qY=>ha t' (by rw[hop,qY];simp[Op.operands])];exact h
   .rename_i fD;split at h
    .rename_i t x hop;exact absurd hop (fD t x)
    .exact h
  .trivial
 rcases h1 with⟨bi,c,y,e1,c1,rfl⟩ | ⟨bi,vi,c,g,xs,y,H2,fL,ti,eG,hcl,hld,oy,rfl⟩ | ⟨bi,vi,k1,l1,x,H',e1,ox,rfl⟩
 .-- data first
  rcases h2 with⟨bj,c',z,e2,c2,rfl⟩ | ⟨bj,vj,c',g,xs,z,H2,ll,tj,eG,hcl,hld,oz,rfl⟩ | ⟨bj,vj,k2,l2,z,H2,e2,oz,rfl⟩
  .rw[j6 (agj _)]at e2;refine⟨⟨aD σ.env oj.dst (.d z),σ.H⟩,⟨dj,gj,oE,.inl ⟨bj,c',z,e2,c2,rfl⟩⟩,di,gi,oE.put (adz.d _ _) _,.inl ⟨bi,c,y,?_,c1,?_⟩⟩
   .rw[<- j6 (eX _)];exact e1
   .rw[fG aI]
  .rw[tg ll (agj _)]at tj;refine⟨⟨aD σ.env oj.dst z,H2⟩,⟨dj,gj,oE,.inr (.inl ⟨bj,vj,c',g,xs,z,H2,ll,tj,eG,hcl,hld,oz,rfl⟩)⟩,di,gi,oE.put oz _,.inl ⟨bi,c,y,?_,c1,?_⟩⟩
   .rw[<- j6 (eX _)];exact e1
   .rw[fG aI]
  .refine⟨⟨aD σ.env oj.dst z,H2⟩,⟨dj,gj,oE,.inr (.inr ⟨bj,vj,k2,lda (agj _) l2,z,H2,e2.congr k2 (agj _),oz,rfl⟩)⟩,di,gi,oE.put oz _,.inl ⟨bi,c,y,?_,c1,?_⟩⟩
   .rw[<- j6 (eX _)];exact e1
   .rw[fG aI]
 .-- a call first
  rcases h2 with⟨bj,c',z,e2,c2,rfl⟩ | ⟨bj,vj,_⟩ | ⟨bj,vj,k2,l2,z,H3,e2,oz,rfl⟩
  .rw[j6 (agj _)]at e2;refine⟨⟨aD σ.env oj.dst (.d z),σ.H⟩,⟨dj,gj,oE,.inl ⟨bj,c',z,e2,c2,rfl⟩⟩,di,gi,oE.put (adz.d _ _) _,.inr (.inl ⟨bi,vi,c,g,xs,y,H2,fL,?_,eG,hcl,hld,oy,?_⟩)⟩
   .rw[<- tg fL (eX _)];exact ti
   .rw[fG aI]
  .rw[bi,bj,vi]at acO;simp[vj]at acO
   simp_all
  .rw[bi,bj]at acO;have qu:=e2.congr k2 (agj _);have uT:=lda (agj _) l2
   have hq:H3=H2/\Ex P T Mv G oj σ.env σ.H z σ.H:=by
    have hp:kindOf oj.op=0\/(ex.lookup j).isSome=true:=by
     simp only[aeE,vi,vj,if_true,adg,aeK]at acO;simpa using acO
    rcases hp with hp | hp
    .exact⟨qu.keeps (by omega),qu.free hp σ.H⟩
    .obtain⟨pv,jy⟩:=adL.1 hp;have hs:=hld _ (Au jy);refine uU bu jy uT ?_ qu;unfold gL at hs ⊢;simp only[bu]at hs ⊢;split<;>simp_all
   obtain⟨rfl,e3⟩:=hq;refine⟨⟨aD σ.env oj.dst z,σ.H⟩,⟨dj,gj,oE,.inr (.inr ⟨bj,vj,k2,uT,z,σ.H,e3,oz,rfl⟩)⟩,di,gi,oE.put oz _,.inr (.inl ⟨bi,vi,c,g,xs,y,H3,fL,?_,eG,hcl,hld,oy,?_⟩)⟩
   .rw[<- tg fL (eX _)];exact ti
   .rw[fG aI]
 .rcases h2 with⟨bj,c',z,e2,c2,rfl⟩ | ⟨bj,vj,c',g,xs,z,H2,ll,tj,eG,hcl,hld,oz,rfl⟩ | ⟨bj,vj,k2,l2,z,H2,e2,oz,rfl⟩
  .rw[j6 (agj _)]at e2;refine⟨⟨aD σ.env oj.dst (.d z),σ.H⟩,⟨dj,gj,oE,.inl ⟨bj,c',z,e2,c2,rfl⟩⟩,di,gi,oE.put (adz.d _ _) _,.inr (.inr ⟨bi,vi,k1,lda (eX _) l1,x,H',e1.congr k1 (eX _),ox,?_⟩)⟩;rw[fG aI]
  .rw[tg ll (agj _)]at tj;rw[bi,bj]at acO
   have hp:kindOf oi.op=0\/(ex.lookup i).isSome=true:=by
    simp only[aeE,vi,vj,if_true,abT,if_false]at acO;simpa using acO
   have tS:=e1.congr k1 (eX z);have l1':=lda (eX z) l1
   rcases hp with hp | hp
   .obtain rfl:=e1.keeps (by omega);refine⟨⟨aD σ.env oj.dst z,H2⟩,⟨dj,gj,oE,.inr (.inl ⟨bj,vj,c',g,xs,z,H2,ll,tj,eG,hcl,hld,oz,rfl⟩)⟩,di,gi,oE.put oz _,.inr (.inr ⟨bi,vi,k1,l1',x,H2,tS.free hp H2,ox,?_⟩)⟩;rw[fG aI]
   .obtain⟨pv,jy⟩:=adL.1 hp;have hs:=hld _ (Au jy);have hH:H'=σ.H:=(uU (H2:=σ.H) b7 jy l1 (by unfold gL;simp only[b7];unfold gL at hs;simp only[b7]at hs;split<;>simp_all) e1).1;subst hH;obtain⟨_,e3⟩:=uU b7 jy l1' hs tS;refine⟨⟨aD σ.env oj.dst z,H2⟩,⟨dj,gj,oE,.inr (.inl ⟨bj,vj,c',g,xs,z,H2,ll,tj,eG,hcl,hld,oz,rfl⟩)⟩,di,gi,oE.put oz _,.inr (.inr ⟨bi,vi,k1,l1',x,H2,e3,ox,?_⟩)⟩;rw[fG aI]
  .rw[bi,bj]at acO
   have bT:adC ops oi oj=true:=by simp only[adC,abI];simp only[aeE,vi,vj,abT,if_false]at acO;exact⟨hap,acO⟩
   obtain⟨H3,f1,f2⟩:=tJ (N:=N) bT ⟨di,.inl ⟨ir gi,e1⟩⟩ ⟨dj,.inl ⟨ir gj,e2⟩⟩ k1 k2
   have un:∀ {o:Oper} {e:Env} {H H':Heap} {x:AV},o.guard=none->Sx P T Mv G N ops o e H x H'->Ex P T Mv G o e H x H':=fun hgu h=>by
    rcases h.2 with⟨_,h⟩ | ⟨hw,_⟩
    .exact h
    .rw[ir hgu]at hw;cases hw
   refine⟨⟨aD σ.env oj.dst z,H3⟩,⟨dj,gj,oE,.inr (.inr ⟨bj,vj,k2,lda (agj _) l2,z,H3,un gj f1,oz,rfl⟩)⟩,di,gi,oE.put oz _,.inr (.inr ⟨bi,vi,k1,lda (eX _) l1,x,H2,un gi f2,ox,?_⟩)⟩;rw[fG aI]
def pz (P:Program) (T:Ty) (Mv:Nat->Prop) (G:aq) (mvd:List Nat) (ops:Array Oper) (ex:List (Nat×AV)) (g:FuncId) (xs:List AV) (σ:St) (dst:Option Tmp) (K:St->Prop):Prop:=∃ y H2,(∀ r∈mvd,Mv r)/\HC P G mvd g xs σ.H y H2/\(∀ p∈ex,gL T ops σ.H H2 p)/\adz mvd y/\K ⟨aD σ.env dst y,H2⟩
theorem pz.mc {mvd:List Nat} {ex:List (Nat×AV)} {dst:Option Tmp} {K:St->Prop} {fx:List Nat} {g:FuncId} {j1 xs:List AV} {bN eg:List (Nat×Row)} {y:AV} (hc:MC P G fx g xs (ak bN) y (ak eg)) (hx:j1.map (AV.tr (acH (bN.map (·.1))) (acG (bN.map (·.1))))=xs)
  (hH:∀ p∈bN,(σ.H p.1).map (Row.tr (acH (bN.map (·.1))) (acG (bN.map (·.1))))=ak bN p.1) (hd:∀ p∈eg,(bN.map (·.1)).contains p.1=true\/σ.H p.1=none) (hm:∀ r∈bN.map (·.1),fx.contains r=false->r∈mvd) (eG:∀ r∈mvd,Mv r) (ho:∀ r∈mvd,y.kill r=y)
  (hl:∀ p∈ex,gL T ops σ.H (jN (ak eg) (trH (dZ (bN.map (·.1))) (ji (bN.map (·.1)) fx) (jh (bN.map (·.1)) fx) σ.H)) p)
  (h:K ⟨aD σ.env dst y,jN (ak eg) (trH (dZ (bN.map (·.1))) (ji (bN.map (·.1)) fx) (jh (bN.map (·.1)) fx) σ.H)⟩):pz P T Mv G mvd ops ex g j1 σ dst K:=⟨y,_,eG,.mc hc hx hH hd hm,hl,ho,h⟩
def ags (T:Ty) (G:aq) (Mv:Nat->Prop) (mvd:List Nat) (o:Oper) (σ:St) (next:St->Prop):Prop:=
 if acS o.op then match wr T G Mv σ o with
  | some (c,x,aw)=>c/\(∀ r∈mvd,x.kill r=x)/\next ⟨aD aw.env o.dst x,aw.H⟩
  | none=>False
 else match rd T G σ o.op with
  | some (c,x)=>c/\(∀ r∈mvd,x.kill r=x)/\next ⟨aD σ.env o.dst x,σ.H⟩
  | none=>False
def yj (P:Program) (T:Ty) (Mv:Nat->Prop) (G:aq) (N:Fr) (mvd db hv:List Nat) (ex:List (Nat×AV)) (ops:Array Oper) (i:Nat) (o:Oper) (σ:St) (K:St->Prop):Prop:=eU N o/\o.guard=none/\
 if db.contains i=true then (match kA T G σ.env o with
  | some (c,y)=>c/\K ⟨aD σ.env o.dst (.d y),σ.H⟩
  | none=>False)
 else if hv.contains i=true then (match acm o.op with
  | some c=>match tgt G σ.env c with
   | some (g,xs)=>pz P T Mv G mvd ops ex g xs σ o.dst K
   | none=>False
  | none=>False)
 else kindOf o.op≠9/\mb G ex i o σ.env/\match acm o.op with
  | some c=>aeT P G c σ.env o.dst σ.H [] [] K
  | none=>ags T G Mv mvd o σ K
def yp (P:Program) (T:Ty) (Mv:Nat->Prop) (G:aq) (N:Fr) (mvd db hv:List Nat) (ex:List (Nat×AV)) (ops:Array Oper) (K:St->Prop):List (Nat×Oper)->St->Prop
 | [],σ=>K σ
 | (i,o) :: rest,σ=>yj P T Mv G N mvd db hv ex ops i o σ (yp P T Mv G N mvd db hv ex ops K rest)
theorem Zn {mvd db hv:List Nat} {ex:List (Nat×AV)} {K:St->Prop}:∀ (l:List Nat) (σ:St),(∀ i∈l,i < ops.size)->lS mvd σ.env->yp P T Mv G N mvd db hv ex ops K (b6 ops l) σ->∃ σn,K σn/\gS (rH P T Mv G N mvd db hv ex ops) ops l σ σn:=by
 intro l
 induction l with
 | nil=>intro σ _ _ h;exact⟨σ,h,rfl⟩
 | cons i l ih=>
  intro σ hl gA h;have hi:=hl i (by simp)
  have ho:ops[i]? = some ops[i]:=by simp[hi]
  simp only[b6,ho]at h;generalize ops[i]=o at ho h;simp only[yp,yj]at h;obtain⟨hd,hgu,h⟩:=h
  have fin:∀ aG,rH P T Mv G N mvd db hv ex ops i o σ aG->lS mvd aG.env->yp P T Mv G N mvd db hv ex ops K (b6 ops l) aG->∃ σn,K σn/\gS (rH P T Mv G N mvd db hv ex ops) ops (i :: l) σ σn:=fun aG hs hE h1=>by
   obtain⟨σn,hk,hr⟩:=ih aG (fun j hj=>hl j (by simp[hj])) hE h1;exact⟨σn,hk,o,ho,aG,hs,hr⟩
  split at h
  .rename_i hb;split at h
   .rename_i c y hw;obtain⟨hc,h⟩:=h;exact fin _ ⟨hd,hgu,gA,.inl ⟨hb,c,y,hw,hc,rfl⟩⟩ (gA.put (adz.d _ _) _) h
   .exact h.elim
  .rename_i hb
   have hb:db.contains i=false:=by simpa using hb
   split at h
   .rename_i gC;split at h
    .rename_i c hc;split at h
     .rename_i g xs ht;obtain⟨y,H2,h0,h1,h2,h3,h⟩:=h;exact fin _ ⟨hd,hgu,gA,.inr (.inl ⟨hb,gC,c,g,xs,y,H2,hc,ht,h0,h1,h2,h3,rfl⟩)⟩ (gA.put h3 _) h
     .exact h.elim
    .exact h.elim
   .rename_i gC
    have gC:hv.contains i=false:=by simpa using gC
    obtain⟨hk,kK,h⟩:=h;split at h
    .rename_i c hc;obtain⟨y,g,ds,ht,hp,ac8,h⟩:=h;refine fin _ ⟨hd,hgu,gA,.inr (.inr ⟨hb,gC,hk,kK,.d y,σ.H,?_,adz.d _ _,rfl⟩)⟩ (gA.put (adz.d _ _) _) h;unfold Ex;simp only[hc];exact⟨y,⟨g,_,ht,.inl ⟨ds,rfl,hp⟩⟩,rfl,trivial⟩
    .rename_i hc;unfold ags at h;split at h
     .rename_i hw;split at h
      .rename_i c x aG h1;obtain⟨bT,ac8,h⟩:=h;have he:=agb hk h1;obtain⟨e,H⟩:=σ;obtain⟨e1,H1⟩:=aG;dsimp only at he;subst he;refine fin _ ⟨hd,hgu,gA,.inr (.inr ⟨hb,gC,hk,kK,x,H1,?_,ac8,rfl⟩)⟩ (gA.put ac8 _) h;unfold Ex;simp only[hc];rw[if_pos hw];exact⟨c,h1,bT⟩
      .exact h.elim
     .rename_i hw;split at h
      .rename_i c x h1;obtain⟨bT,ac8,h⟩:=h;refine fin _ ⟨hd,hgu,gA,.inr (.inr ⟨hb,gC,hk,kK,x,σ.H,?_,ac8,rfl⟩)⟩ (gA.put ac8 _) h;unfold Ex;simp only[hc];rw[if_neg hw];exact⟨c,h1,bT,trivial⟩
      .exact h.elim
end
attribute [simp] yj mb ags
