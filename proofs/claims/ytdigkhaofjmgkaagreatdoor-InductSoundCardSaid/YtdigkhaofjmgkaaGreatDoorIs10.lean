/- Parts. -/
import Derived.Test.YtdigkhaofjmgkaaGreatDoorIs9
import Derived.Scope
set_option linter.unusedSectionVars false
set_option linter.unusedSimpArgs false
set_option linter.unusedVariables false
namespace Go.Av
def TM (Q:Exit->St->Prop):Exit->St->Prop
 | .goto _,_=>False
 | e,σ=>Q e σ
section
variable {P:Program} {Mv X:Nat->Prop} {G:YI} {N:Fr} {σ:St}
end
attribute [simp] TM
end Go.Av
namespace Go.Av
section
variable {P:Program} {T:Ty} {Mv X:Nat->Prop} {G:YI} {N:Fr} {w:World} {μ:Mu} {a:Act} {σ:St}
def j8 (mvd:List Nat) (e:Env):Prop:=∀ r∈mvd,ch r e=e
def fL (mvd:List Nat) (x:AV):Prop:=∀ r∈mvd,x.kill r=x
theorem j8.put {mvd:List Nat} {e:Env} (h:j8 mvd e) {x:AV} (hx:fL mvd x) (d:Option Tmp):j8 mvd (au e d x):=fun r hr=>by rw[xw,h r hr,hx r hr]
theorem fL.d (mvd:List Nat) (y:D):fL mvd (.d y):=fun _ _=>rfl
theorem RV.off {w':World} {ak:Mu} {mvd:List Nat} (aD:Ev (fun r=>r∈mvd) w μ w' ak):∀ {v:Value} {x:AV},RV w X μ v x->fL mvd x->RV w' X ak v x:=by
 intro v x hr;have ne:∀ {q:Nat},(∀ r∈mvd,¬ q=r)->∀ m,μ q=some m->ak q=some m:=fun h m hm=>aD.kept _ m hm fun nB=>h _ nB rfl
 have sub:∀ {l:List AV},(∀ r∈mvd,AV.kill.go r l=l)->∀ (j:Nat) (c:AV),l[j]? = some c->fL mvd c:=fun {l} h j c hc r hr=>by
  have:=h r hr;rw[AV.go_eq]at this;have h2:=congrArg (fun l:List AV=>l[j]?) this;simp only[List.getElem?_map,hc,Option.map_some,Option.some.injEq]at h2;exact h2
 induction hr with
 | d h'=>intro _;exact .d (h'.ev aD)
 | own hm h'=>
  intro ho;refine .own (ne (fun r hr e=>?_) _ hm) h';have:=ho r hr;simp[AV.kill,e]at this
 | ref hm hb=>
  intro ho;refine .ref (ne (fun r hr e=>?_) _ hm) hb;have:=ho r hr;simp[AV.kill,e]at this
 | agg hn _ ih=>
  intro ho;exact .agg hn fun j u c hu hc=>ih j u c hu hc (sub (fun r hr=>by have:=ho r hr;simpa[AV.kill]using this) j c hc)
 | aT hn _ ih=>
  intro ho;exact .aT hn fun j u c hu hc=>ih j u c hu hc (sub (fun r hr=>by have:=ho r hr;simpa[AV.kill]using this) j c hc)
 | bh _ ih=>intro ho;exact .bh (ih fun r hr=>by have:=ho r hr;simpa[AV.kill]using this)
 | bm _ ih=>intro ho;exact .bm (ih fun r hr=>by have:=ho r hr;simpa[AV.kill]using this)
 | fn hn _ ih=>
  intro ho;exact .fn hn fun j u c hu hc=>ih j u c hu hc (sub (fun r hr=>by have:=ho r hr;simpa[AV.kill]using this) j c hc)
 | mp hm hb=>
  intro ho;refine .mp (ne (fun r hr e=>?_) _ hm) hb;have:=ho r hr;simp[AV.kill,e]at this
 | dead u=>intro _;exact .dead u
def HC (P:Program) (G:YI) (mvd:List Nat) (g:FuncId) (xs:List AV) (H:Heap) (y:AV) (H2:Heap):Prop:=∀ (Mv X:Nat->Prop) (N:Fr) (e:Env),(∀ r∈mvd,Mv r)->j8 mvd e->gS P Mv X G N g xs ⟨e,H⟩ fun x ag=>x=y/\ag=⟨e,H2⟩
theorem HC.of {mvd:List Nat} {g:FuncId} {xs:List AV} {H H2:Heap} {y:AV} (h:∀ (X:Nat->Prop) (N:Fr) (e:Env),gS P (fun r=>r∈mvd) X G N g xs ⟨e,H⟩ fun x ag=>x=y/\ag.H=H2):HC P G mvd g xs H y H2:=fun Mv X N e c7 dN=>by
 refine⟨(h X N e).1,fun w μ a vs hi hn hv=>((h X N e).2 w μ a vs hi hn hv).mono fun e' w' ⟨v,x,ag,ak,he,⟨BD,hH⟩,ax,hr,aD⟩=>?_⟩;subst hH;refine⟨v,x,⟨e,ag.H⟩,ak,he,⟨BD,rfl⟩,⟨ax.aL,⟨hi.env.defers,hi.env.size,fun i z hz=>?_⟩,ax.eY⟩,hr,aD.weaken fun r _ _ h=>c7 r h⟩;obtain⟨u,hu,tT⟩:=hi.env.slot i z hz;refine⟨u,hu,RV.off aD tT fun r hr=>?_⟩;have h1:=congrFun (dN r hr) i;replace hz:e i=some z:=hz;simpa[ch,hz]using h1
theorem HC.mc {mvd:List Nat} {fx:List Nat} {g:FuncId} {Z7 xs:List AV} {H:Heap} {bg Zs:List (Nat×Row)} {y:AV} (hc:MC P G fx g xs (YH bg) y (YH Zs)) (hx:Z7.map (AV.tr (cT (bg.map (·.1))) (Zi (bg.map (·.1))))=xs)
  (hH:∀ p∈bg,(H p.1).map (Row.tr (cT (bg.map (·.1))) (Zi (bg.map (·.1))))=YH bg p.1) (hd:∀ p∈Zs,(bg.map (·.1)).contains p.1=true\/H p.1=none) (hm:∀ r∈bg.map (·.1),fx.contains r=false->r∈mvd) :
  HC P G mvd g Z7 H y (aav (YH Zs) (Zg (eh (bg.map (·.1))) (Z6 (bg.map (·.1)) fx) (Z5 (bg.map (·.1)) fx) H)):=.of fun X N e=>by
 refine gS.xE hc hx (funext (x8 hH)).symm (fun q hq=>?_) (fun r hr=>hm r (List.contains_iff_mem.1 hr)) ⟨rfl,rfl⟩
 have nB:∀ l:List (Nat×Row),(YH l q).isSome=true->∃ p∈l,p.1=q:=by
  intro l
  induction l with
  | nil=>intro h;simp[YH]at h
  | cons p l ih=>
   intro h;simp only[YH,List.lookup]at h
   cases lR:(q == p.1) with
   | true=>exact⟨p,by simp,by simpa using (beq_iff_eq.1 lR).symm⟩
   | false=>
    rw[lR]at h;obtain⟨p',h1,h2⟩:=ih h;exact⟨p',by simp[h1],h2⟩
 obtain⟨p,hp,rfl⟩:=nB Zs hq;exact hd p hp
variable {ops:Array Oper} {Step:Nat->Oper->St->St->Prop} {cp:Nat->Nat->Oper->Oper->Bool}
def abJ (Step:Nat->Oper->St->St->Prop) (cp:Nat->Nat->Oper->Oper->Bool) (ops:Array Oper):Prop:=∀ i j oi oj,ops[i]? = some oi->ops[j]? = some oj->cp i j oi oj=true->∀ σ YK dh,Step i oi σ YK->Step j oj YK dh->∃ dA,Step j oj σ dA/\Step i oi dA dh
def Sound (P:Program) (X:Nat->Prop) (G:YI) (N:Fr) (Mv:Nat->Prop) (Step:Nat->Oper->St->St->Prop) (ops:Array Oper):Prop:=∀ i o,ops[i]? = some o->∀ σ ag,Step i o σ ag->∀ w μ a,In w X G μ N a σ->∀ {Q:Exit->Act->World->Prop} {K:Act->World->Prop},(∀ w' ak a',In w' X G ak N a' ag->Ev Mv w μ w' ak->K a' w')->wpOpIn (wd N.ro) 0 P ops Q i K a w
def fX (Step:Nat->Oper->St->St->Prop) (ops:Array Oper):List Nat->St->St->Prop
 | [],σ,ag=>σ=ag
 | i :: l,σ,ag=>∃ o,ops[i]? = some o/\∃ YK,Step i o σ YK/\fX Step ops l YK ag
theorem Vr (rI:abJ Step cp ops) {p:Nat} {op:Oper} (hp:ops[p]? = some op):∀ (l1:List Nat) {l2:List Nat} {σ ag:St},(∀ q∈l1,∀ oq,ops[q]? = some oq->cp q p oq op=true)->fX Step ops (l1 ++ p :: l2) σ ag->fX Step ops (p :: (l1 ++ l2)) σ ag:=by
 intro l1
 induction l1 with
 | nil=>intro l2 σ ag _ h;exact h
 | cons q l1 ih=>
  intro l2 σ ag bw h;obtain⟨oq,hq,YK,s1,rest⟩:=h;obtain⟨o',Zq,dh,s2,nQ⟩:=ih (fun q' fT=>bw q' (by simp[fT])) rest;rw[hp]at Zq;obtain rfl:=Option.some.inj Zq;obtain⟨dA,f1,f2⟩:=rI q p oq op hq hp (bw q (by simp) oq hq) σ YK dh s1 s2;exact⟨op,hp,dA,f1,oq,hq,dh,f2,nQ⟩
def k8 (cp:Nat->Nat->Oper->Oper->Bool) (ord:List Nat) (ops:Array Oper):Bool:=
 let t:=tb ops
 ord.length == ops.size && (ord.all fun i=>decide (i < ops.size)) && ((List.range ops.size).all fun i=>ord.contains i) && decide ord.Nodup &&
 ((List.range ops.size).all fun j=>match ops[j]? with
  | some oj=>oj.after.all fun e=>!Region.binds .any e || e.on < j
  | none=>true) &&
 go t ord
where
 go (t:List Nat):List Nat->Bool
 | []=>true
 | a :: l=>(l.all fun b=>match ops[a]?,ops[b]? with
  | some oa,some ob=>(oa.after.all fun e=>!Region.binds .any e || !(e.on == b)) && ((t.getD b 0).testBit a || cp a b oa ob)
  | _,_=>true) && go t l
def yH (cp:Nat->Nat->Oper->Oper->Bool) (ops:Array Oper) (a b:Nat):Prop:=∀ oa ob,ops[a]? = some oa->ops[b]? = some ob->
 (∀ e∈oa.after,Region.binds .any e=true->e.on≠b)/\(((tb ops).getD b 0).testBit a=true\/cp a b oa ob=true)
theorem Ii:∀ {l:List Nat},k8.go cp ops (tb ops) l=true->l.Pairwise (yH cp ops)
 | [],_=>.nil
 | a :: l,h=>by
  simp only[k8.go,Bool.and_eq_true]at h;refine .cons (fun b hb oa ob nC nD=>?_) (Ii h.2);have:=List.all_eq_true.1 h.1 b hb;simp only[nC,nD,Bool.and_eq_true,Bool.or_eq_true]at this;refine⟨fun e he hbi heq=>?_,this.2⟩;have h1:=Array.all_eq_true_iff_forall_mem.1 this.1 e he;simp[hbi,heq]at h1
theorem KS (bA:Sound P X G N Mv Step ops) (rI:abJ Step cp ops) (YJ:∀ j oj,ops[j]? = some oj->∀ e∈oj.after,Region.binds .any e=true->e.on < j) {Q:Exit->St->Prop} {w0:World} {eV:Mu} {aY:St} (hQ:Q .normal aY):∀ (n:Nat) (R:List Nat) (listed:Array Bool) (w:World) (μ:Mu) (a:Act) (σ:St),R.length=n->R.Nodup->
  (∀ j,j∈R↔j < ops.size/\listed.getD j true=false)->listed.size=ops.size->R.Pairwise (yH cp ops)->
  (∀ j oj,ops[j]? = some oj->listed.getD j false=true->∀ e∈oj.after,Region.binds .any e=true->listed.getD e.on false=true)->fX Step ops R σ aY->In w X G μ N a σ->Ev Mv w0 eV w μ->
  wpAnyIn (wd N.ro) 0 P .any ops (After Mv X G N w0 eV Q) n listed a w:=by
 intro n
 induction n with
 | zero=>
  intro R listed w μ a σ hl _ hR aK _ _ bt hi aD;have:R=[]:=List.eq_nil_of_length_eq_zero hl;subst this
  have hr:Region.ready .any ops listed=[]:=by
   apply List.eq_nil_iff_forall_not_mem.2;intro j hj;obtain⟨h1,o,ho,_⟩:=mem_ready.1 hj;exact absurd ((hR j).2 ⟨(Array.getElem?_eq_some_iff.1 ho).1,h1⟩) (by simp)
  have:σ=aY:=bt;subst this;exact⟨hr,μ,σ,hQ,hi,aD⟩
 | succ n ih=>
  intro R listed w μ a σ hl ZT hR aK eK gB bt hi aD;refine⟨fun hr=>?_,fun i lM=>?_⟩
  .cases R with
   | nil=>simp at hl
   | cons j R=>
    obtain⟨gC,ZY⟩:=(hR j).1 (by simp)
    have bf:ops[j]? = some ops[j]:=by simp[gC]
    have hjr:j∈Region.ready .any ops listed:=by
     refine mem_ready.2 ⟨ZY,ops[j],bf,fun e he hb=>?_⟩;have oI:=YJ j ops[j] bf e he hb
     have bZ:e.on < ops.size:=by omega
     have aG:e.on ∉ (j :: R):=by
      intro hm
      rcases List.mem_cons.1 hm with h | h
      .omega
      .exact ((List.pairwise_cons.1 eK).1 _ h ops[j] ops[e.on] bf (by simp[bZ])).1 e he hb rfl
     have:=mt (hR e.on).2 aG
     have fv:e.on < listed.size:=by omega
     simp only[bZ,true_and,Array.getD_eq_getD_getElem?]at this ⊢;simp[fv]at this ⊢;exact this
    rw[hr]at hjr;cases hjr
  .obtain⟨bO,oi,bD,bw⟩:=mem_ready.1 lM;have lK:i∈R:=(hR i).2 ⟨(Array.getElem?_eq_some_iff.1 bD).1,bO⟩;obtain⟨R1,R2,rfl⟩:=List.append_of_mem lK
   have lJ:=Vr rI bD R1 (fun q hq oq ia=>by
    have nF:yH cp ops q i:=(List.pairwise_append.1 eK).2.2 q hq i (by simp)
    rcases (nF oq oi ia bD).2 with h | h
    .exfalso;have hlq:=sw YJ gB i i oi (Nat.le_refl _) bD bw q h;have e6:=((hR q).1 (by simp[hq])).2
     have lS:q < listed.size:=by have:=(Array.getElem?_eq_some_iff.1 ia).1;omega
     simp[Array.getD_eq_getD_getElem?,lS]at hlq e6;rw[hlq]at e6;cases e6
    .exact h) bt
   obtain⟨o',Zq,YK,hstep,YV⟩:=lJ;rw[bD]at Zq;obtain rfl:=Option.some.inj Zq;refine bA i oi bD _ _ hstep _ _ _ hi fun w' ak a' ax aaI=>?_
   have lP:(R1 ++ R2).Nodup:=by
    have:=ZT;rw[List.nodup_append]at this ⊢;obtain⟨g1,g2,g3⟩:=this;exact⟨g1,(List.nodup_cons.1 g2).2,fun x hx y hy=>g3 x hx y (by simp[hy])⟩
   have lL:i ∉ R1 ++ R2:=by
    have:=ZT;rw[List.nodup_append]at this;obtain⟨g1,g2,g3⟩:=this;intro hm
    rcases List.mem_append.1 hm with h | h
    .exact g3 i h i (by simp) rfl
    .exact (List.nodup_cons.1 g2).1 h
   refine ih (R1 ++ R2) _ w' ak a' YK (by simp at hl ⊢;omega) lP (fun j=>?_) (by simpa using aK) ?_ ?_ YV ax (aD.trans aaI)
   .by_cases cL:j=i
    .subst cL
     have fv:j < listed.size:=by rw[aK];exact (Array.getElem?_eq_some_iff.1 bD).1
     simp[fv];simpa using lL
    .rw[getD_set_ne true (Ne.symm cL)];rw[<- hR j];simp[cL]
   .rw[List.pairwise_append]at eK ⊢;obtain⟨g1,g2,g3⟩:=eK;exact⟨g1,(List.pairwise_cons.1 g2).2,fun x hx y hy=>g3 x hx y (by simp[hy])⟩
   .intro j oj bf cX e he hb;by_cases cL:j=i
    .subst cL;rw[bD]at bf;obtain rfl:=Option.some.inj bf;exact getD_set_true (bw e he hb)
    .rw[getD_set_ne false (Ne.symm cL)]at cX;exact getD_set_true (gB j oj bf cX e he hb)
theorem acM (hm:P.follows .mixedOrders=true) (bA:Sound P X G N Mv Step ops) (rI:abJ Step cp ops) (ord:List Nat) {id:Nat} (bp:k8 cp ord ops=true) {Q:Exit->St->Prop} {σ:St} (h:(∀ i∈ord,i < ops.size)->∃ aY,Q .normal aY/\fX Step ops ord σ aY):AW P Mv X G N (.region id ops true) Q σ:=fun w μ a hi=>by
 unfold k8 at bp;simp only[Bool.and_eq_true]at bp;obtain⟨⟨⟨⟨⟨h1,h2⟩,h3⟩,h4⟩,h5⟩,h6⟩:=bp
 have hlen:ord.length=ops.size:=by simpa using h1
 have YJ:∀ i∈ord,i < ops.size:=fun i hi=>by simpa using List.all_eq_true.1 h2 i hi
 have bw:∀ i,i < ops.size->i∈ord:=fun i hi=>by simpa using List.all_eq_true.1 h3 i (List.mem_range.2 hi)
 have ZT:ord.Nodup:=by simpa using h4
 have abA:∀ j oj,ops[j]? = some oj->∀ e∈oj.after,Region.binds .any e=true->e.on < j:=fun j oj bf e he hb=>by
  have:=List.all_eq_true.1 h5 j (List.mem_range.2 (Array.getElem?_eq_some_iff.1 bf).1);simp only[bf]at this;have:=Array.all_eq_true_iff_forall_mem.1 this e he;simpa[hb]using this
 obtain⟨aY,hQ,bt⟩:=h YJ;refine wpIn_region_any hm ?_;obtain⟨ax,aD⟩:=hi.iW (Mv:=Mv) (bT.drew w);refine KS bA rI abA hQ ops.size ord _ w.drew μ a σ hlen ZT (fun j=>?_) (by simp) (Ii h6) ?_ bt ax aD
 .constructor
  .intro hj;have:=YJ j hj;simp[Array.getD_eq_getD_getElem?,this]
  .intro hj;exact bw j hj.1
 .intro j oj bf cX;have hj:=(Array.getElem?_eq_some_iff.1 bf).1;simp[Array.getD_eq_getD_getElem?,hj]at cX
def fK (T:Ty) (ops:Array Oper) (H H2:Heap) (p:Nat×AV):Prop:=match ops[p.1]? with
 | some o=>match o.op with
  | .load t _=>iL T H t p.2=iL T H2 t p.2
  | _=>False
 | none=>False
def jk (G:YI) (ex:List (Nat×AV)) (i:Nat) (o:Oper) (e:Env):Prop:=match ex.lookup i with
 | some pv=>match o.op with
  | .load _ x=>aU G e x=some pv
  | _=>False
 | none=>True
def Ky (P:Program) (T:Ty) (Mv:Nat->Prop) (G:YI) (mvd:List Nat) (ops:Array Oper) (ex:List (Nat×AV)) (o:Oper) (σ ag:St):Prop:=∃ c g xs y H2,Y0 o.op=some c/\ZS G σ.env c=some (g,xs)/\(∀ r∈mvd,Mv r)/\HC P G mvd g xs σ.H y H2/\(∀ p∈ex,fK T ops σ.H H2 p)/\fL mvd y/\ag=⟨au σ.env o.dst y,H2⟩
def j7 (P:Program) (T:Ty) (Mv:Nat->Prop) (G:YI) (N:Fr) (mvd db hv:List Nat) (ex:List (Nat×AV)) (ops:Array Oper) (i:Nat) (o:Oper) (σ ag:St):Prop:=
 c8 N o/\o.guard=none/\j8 mvd σ.env/\((db.contains i=true/\∃ c y,iR T G σ.env o=some (c,y)/\c/\ag=⟨au σ.env o.dst (.d y),σ.H⟩)\/
  (db.contains i=false/\hv.contains i=true/\Ky P T Mv G mvd ops ex o σ ag)\/
  (db.contains i=false/\hv.contains i=false/\kindOf o.op≠9/\jk G ex i o σ.env/\∃ x H',Ex P T Mv G o σ.env σ.H x H'/\fL mvd x/\ag=⟨au σ.env o.dst x,H'⟩))
theorem xK (hg:Good P T) (mvd db hv:List Nat) (ex:List (Nat×AV)):Sound P X G N Mv (j7 P T Mv G N mvd db hv ex ops) ops:=fun i o ho σ ag h w μ a hi Q K hk=>by
 obtain⟨hd,bW,ZQ,h⟩:=h
 have dv:∀ d,o.dst=some d->d < N.n:=fun d e=>by unfold c8 at hd;rw[e]at hd;exact hd
 rcases h with⟨_,c,y,h1,h2,rfl⟩ | ⟨_,_,c,g,xs,y,H2,hc,ht,c7,gA,_,_,rfl⟩ | ⟨_,_,h9,_,x,H',h1,_,rfl⟩
 .unfold wpOpIn;simp only[ho];rw[abV hi (fZ bW),if_pos rfl];refine yt (fun c e=>by simp[iR,e]at h1) ?_;obtain⟨v,w',hr,ax,eo,aD⟩:=Ej (Mv:=Mv) hg hi h1 h2;unfold Oper.wp;rw[hr];exact hk _ μ _ (ax.put eo dv) aD
 .unfold wpOpIn;simp only[ho];rw[abV hi (fZ bW),if_pos rfl];refine (sP (Mv:=Mv) (K:=fun YK=>YK=⟨au σ.env o.dst y,H2⟩) hg hi dv ?_ fun w' ak a' YK e ax aD=>hk w' ak a' (e ▸ ax) aD);unfold ex1;simp only[hc,ht]
  exact (gA Mv X N σ.env c7 ZQ).mono fun x ag ⟨e1,e2⟩=>by rw[e1,e2]
 .exact qF hg ⟨hd,.inl ⟨fZ bW,h1.to⟩⟩ hi ho hk
def sD (db hv:List Nat) (ex:List (Nat×AV)) (ops:Array Oper) (i j:Nat) (oi oj:Oper):Bool:=oi.apart ops oj && (db.contains i || db.contains j ||
 (if hv.contains i then !hv.contains j && (kindOf oj.op == 0 || (ex.lookup j).isSome) else if hv.contains j then kindOf oi.op == 0 || (ex.lookup i).isSome else nO (kindOf oi.op) (kindOf oj.op)))
theorem xF {ex:List (Nat×AV)} {i:Nat} {pv:AV} (h:ex.lookup i=some pv):(i,pv)∈ex:=by
 induction ex with
 | nil=>cases h
 | cons p ex ih=>
  rw[List.lookup_cons]at h;split at h
  .rename_i he;obtain rfl:=Option.some.inj h
   have:i=p.1:=by simpa using he
   rw[this];simp
  .exact List.mem_cons_of_mem _ (ih h)
theorem aca {i:Nat} {o:Oper} (ho:ops[i]? = some o) {ex:List (Nat×AV)} {pv:AV} (hl:ex.lookup i=some pv) {e:Env} {H H2 H':Heap} {x:AV} (b6:jk G ex i o e) (hs:fK T ops H H2 (i,pv)) (h:Ex P T Mv G o e H x H'):H'=H/\Ex P T Mv G o e H2 x H2:=by
 unfold jk at b6
 rw[hl]at b6
 unfold fK at hs;simp only[ho]at hs;obtain⟨dst,op,type,pos,after,guard⟩:=o;dsimp only at b6 hs
 cases op<;>dsimp only at b6 hs<;>try exact b6.elim
 unfold Ex at h ⊢;simp only[Y0,Zr,rd,Bool.false_eq_true,if_false,b6,Option.bind_some]at h ⊢;obtain⟨c,h1,h2,rfl⟩:=h;exact⟨rfl,c,by rw[<- hs];exact h1,h2,trivial⟩
theorem Cd (mvd db hv:List Nat) (ex:List (Nat×AV)):abJ (j7 P T Mv G N mvd db hv ex ops) (sD db hv ex ops) ops:=fun i j oi oj bD bf hc σ YK dh h1 h2=>by
 simp only[sD,Bool.and_eq_true]at hc;obtain⟨ck,eQ⟩:=hc;obtain⟨di,gi,oE,h1⟩:=h1;obtain⟨dj,gj,_,h2⟩:=h2;have cE:∀ v,dB oj.op (au σ.env oi.dst v) σ.env:=fun v t ht=>(eE ck (e:=σ.env) (v:=v)).1 t (fF ht);have Zj:∀ v,dB oi.op σ.env (au σ.env oj.dst v):=fun v t ht=>((eE ck (e:=σ.env) (v:=v)).2.1 t (fF ht)).symm;have aG:=(eE ck (e:=σ.env) (v:=Y2)).2.2;have tg:∀ {o:Oper} {c:Call} {e e':Env},Y0 o.op=some c->dB o.op e e'->ZS G e c=ZS G e' c:=fun {o c e e'} hc ha=>qJ fun t ht=>ha t (by rw[(nK hc).1];exact ht)
 have lda:∀ {k:Nat} {o:Oper} {e e':Env},dB o.op e e'->jk G ex k o e->jk G ex k o e':=fun {k o e e'} ha h=>by
  unfold jk at h ⊢;split
  .rename_i pv hl;simp only[hl]at h;split
   .rename_i t x ZR;simp only[ZR]at h;rw[<- cI (x:=x) fun t' lU=>ha t' (by rw[ZR,lU];simp[Op.operands])];exact h
   .rename_i hno;split at h
    .rename_i t x ZR;exact absurd ZR (hno t x)
    .exact h
  .trivial
 rcases h1 with⟨bi,c,y,e1,c1,rfl⟩ | ⟨bi,vi,c,g,xs,y,H2,fS,ti,c7,bQ,ZW,oy,rfl⟩ | ⟨bi,vi,k1,l1,x,H',e1,ox,rfl⟩
 .-- data first
  rcases h2 with⟨bj,c',z,e2,c2,rfl⟩ | ⟨bj,vj,c',g,xs,z,H2,jK,tj,c7,bQ,ZW,oz,rfl⟩ | ⟨bj,vj,k2,l2,z,H2,e2,oz,rfl⟩
  .rw[iB (cE _)]at e2;refine⟨⟨au σ.env oj.dst (.d z),σ.H⟩,⟨dj,gj,oE,.inl ⟨bj,c',z,e2,c2,rfl⟩⟩,di,gi,oE.put (fL.d _ _) _,.inl ⟨bi,c,y,?_,c1,?_⟩⟩
   .rw[<- iB (Zj _)];exact e1
   .rw[dR aG]
  .rw[tg jK (cE _)]at tj;refine⟨⟨au σ.env oj.dst z,H2⟩,⟨dj,gj,oE,.inr (.inl ⟨bj,vj,c',g,xs,z,H2,jK,tj,c7,bQ,ZW,oz,rfl⟩)⟩,di,gi,oE.put oz _,.inl ⟨bi,c,y,?_,c1,?_⟩⟩
   .rw[<- iB (Zj _)];exact e1
   .rw[dR aG]
  .refine⟨⟨au σ.env oj.dst z,H2⟩,⟨dj,gj,oE,.inr (.inr ⟨bj,vj,k2,lda (cE _) l2,z,H2,e2.congr k2 (cE _),oz,rfl⟩)⟩,di,gi,oE.put oz _,.inl ⟨bi,c,y,?_,c1,?_⟩⟩
   .rw[<- iB (Zj _)];exact e1
   .rw[dR aG]
 .-- a call first
  rcases h2 with⟨bj,c',z,e2,c2,rfl⟩ | ⟨bj,vj,_⟩ | ⟨bj,vj,k2,l2,z,H3,e2,oz,rfl⟩
  .rw[iB (cE _)]at e2;refine⟨⟨au σ.env oj.dst (.d z),σ.H⟩,⟨dj,gj,oE,.inl ⟨bj,c',z,e2,c2,rfl⟩⟩,di,gi,oE.put (fL.d _ _) _,.inr (.inl ⟨bi,vi,c,g,xs,y,H2,fS,?_,c7,bQ,ZW,oy,?_⟩)⟩
   .rw[<- tg fS (Zj _)];exact ti
   .rw[dR aG]
  .rw[bi,bj,vi]at eQ;simp[vj]at eQ
   simp_all
  .rw[bi,bj]at eQ;have oo:=e2.congr k2 (cE _);have rO:=lda (cE _) l2
   have hq:H3=H2/\Ex P T Mv G oj σ.env σ.H z σ.H:=by
    have hp:kindOf oj.op=0\/(ex.lookup j).isSome=true:=by
     simp only[Bool.false_or,vi,vj,if_true,Bool.not_false,Bool.true_and]at eQ;simpa using eQ
    rcases hp with hp | hp
    .exact⟨oo.keeps (by omega),oo.free hp σ.H⟩
    .obtain⟨pv,hpv⟩:=Option.isSome_iff_exists.1 hp;have hs:=ZW _ (xF hpv);refine aca bf hpv rO ?_ oo;unfold fK at hs ⊢;simp only[bf]at hs ⊢;split<;>simp_all
   obtain⟨rfl,e3⟩:=hq;refine⟨⟨au σ.env oj.dst z,σ.H⟩,⟨dj,gj,oE,.inr (.inr ⟨bj,vj,k2,rO,z,σ.H,e3,oz,rfl⟩)⟩,di,gi,oE.put oz _,.inr (.inl ⟨bi,vi,c,g,xs,y,H3,fS,?_,c7,bQ,ZW,oy,?_⟩)⟩
   .rw[<- tg fS (Zj _)];exact ti
   .rw[dR aG]
 .rcases h2 with⟨bj,c',z,e2,c2,rfl⟩ | ⟨bj,vj,c',g,xs,z,H2,jK,tj,c7,bQ,ZW,oz,rfl⟩ | ⟨bj,vj,k2,l2,z,H2,e2,oz,rfl⟩
  .rw[iB (cE _)]at e2;refine⟨⟨au σ.env oj.dst (.d z),σ.H⟩,⟨dj,gj,oE,.inl ⟨bj,c',z,e2,c2,rfl⟩⟩,di,gi,oE.put (fL.d _ _) _,.inr (.inr ⟨bi,vi,k1,lda (Zj _) l1,x,H',e1.congr k1 (Zj _),ox,?_⟩)⟩;rw[dR aG]
  .rw[tg jK (cE _)]at tj;rw[bi,bj]at eQ
   have hp:kindOf oi.op=0\/(ex.lookup i).isSome=true:=by
    simp only[Bool.false_or,vi,vj,if_true,Bool.false_eq_true,if_false]at eQ;simpa using eQ
   have q5:=e1.congr k1 (Zj z);have l1':=lda (Zj z) l1
   rcases hp with hp | hp
   .obtain rfl:=e1.keeps (by omega);refine⟨⟨au σ.env oj.dst z,H2⟩,⟨dj,gj,oE,.inr (.inl ⟨bj,vj,c',g,xs,z,H2,jK,tj,c7,bQ,ZW,oz,rfl⟩)⟩,di,gi,oE.put oz _,.inr (.inr ⟨bi,vi,k1,l1',x,H2,q5.free hp H2,ox,?_⟩)⟩;rw[dR aG]
   .obtain⟨pv,hpv⟩:=Option.isSome_iff_exists.1 hp;have hs:=ZW _ (xF hpv);have hH:H'=σ.H:=(aca (H2:=σ.H) bD hpv l1 (by unfold fK;simp only[bD];unfold fK at hs;simp only[bD]at hs;split<;>simp_all) e1).1;subst hH;obtain⟨_,e3⟩:=aca bD hpv l1' hs q5;refine⟨⟨au σ.env oj.dst z,H2⟩,⟨dj,gj,oE,.inr (.inl ⟨bj,vj,c',g,xs,z,H2,jK,tj,c7,bQ,ZW,oz,rfl⟩)⟩,di,gi,oE.put oz _,.inr (.inr ⟨bi,vi,k1,l1',x,H2,e3,ox,?_⟩)⟩;rw[dR aG]
  .rw[bi,bj]at eQ
   have YY:fM ops oi oj=true:=by simp only[fM,Bool.and_eq_true];simp only[Bool.false_or,vi,vj,Bool.false_eq_true,if_false]at eQ;exact⟨ck,eQ⟩
   obtain⟨H3,f1,f2⟩:=ab4 (N:=N) YY ⟨di,.inl ⟨fZ gi,e1⟩⟩ ⟨dj,.inl ⟨fZ gj,e2⟩⟩ k1 k2
   have un:∀ {o:Oper} {e:Env} {H H':Heap} {x:AV},o.guard=none->Sx P T Mv G N ops o e H x H'->Ex P T Mv G o e H x H':=fun bW h=>by
    rcases h.2 with⟨_,h⟩ | ⟨hw,_⟩
    .exact h
    .rw[fZ bW]at hw;cases hw
   refine⟨⟨au σ.env oj.dst z,H3⟩,⟨dj,gj,oE,.inr (.inr ⟨bj,vj,k2,lda (cE _) l2,z,H3,un gj f1,oz,rfl⟩)⟩,di,gi,oE.put oz _,.inr (.inr ⟨bi,vi,k1,lda (Zj _) l1,x,H2,un gi f2,ox,?_⟩)⟩;rw[dR aG]
def rm (P:Program) (T:Ty) (Mv:Nat->Prop) (G:YI) (mvd:List Nat) (ops:Array Oper) (ex:List (Nat×AV)) (g:FuncId) (xs:List AV) (σ:St) (dst:Option Tmp) (K:St->Prop):Prop:=∃ y H2,(∀ r∈mvd,Mv r)/\HC P G mvd g xs σ.H y H2/\(∀ p∈ex,fK T ops σ.H H2 p)/\fL mvd y/\K ⟨au σ.env dst y,H2⟩
theorem rm.mc {mvd:List Nat} {ex:List (Nat×AV)} {dst:Option Tmp} {K:St->Prop} {fx:List Nat} {g:FuncId} {Z7 xs:List AV} {bg Zs:List (Nat×Row)} {y:AV} (hc:MC P G fx g xs (YH bg) y (YH Zs)) (hx:Z7.map (AV.tr (cT (bg.map (·.1))) (Zi (bg.map (·.1))))=xs)
  (hH:∀ p∈bg,(σ.H p.1).map (Row.tr (cT (bg.map (·.1))) (Zi (bg.map (·.1))))=YH bg p.1) (hd:∀ p∈Zs,(bg.map (·.1)).contains p.1=true\/σ.H p.1=none) (hm:∀ r∈bg.map (·.1),fx.contains r=false->r∈mvd) (c7:∀ r∈mvd,Mv r) (ho:∀ r∈mvd,y.kill r=y)
  (hl:∀ p∈ex,fK T ops σ.H (aav (YH Zs) (Zg (eh (bg.map (·.1))) (Z6 (bg.map (·.1)) fx) (Z5 (bg.map (·.1)) fx) σ.H)) p)
  (h:K ⟨au σ.env dst y,aav (YH Zs) (Zg (eh (bg.map (·.1))) (Z6 (bg.map (·.1)) fx) (Z5 (bg.map (·.1)) fx) σ.H)⟩):rm P T Mv G mvd ops ex g Z7 σ dst K:=⟨y,_,c7,.mc hc hx hH hd hm,hl,ho,h⟩
def uP (T:Ty) (G:YI) (Mv:Nat->Prop) (mvd:List Nat) (o:Oper) (σ:St) (next:St->Prop):Prop:=
 if Zr o.op then match wr T G Mv σ o with
  | some (c,x,ag)=>c/\(∀ r∈mvd,x.kill r=x)/\next ⟨au ag.env o.dst x,ag.H⟩
  | none=>False
 else match rd T G σ o.op with
  | some (c,x)=>c/\(∀ r∈mvd,x.kill r=x)/\next ⟨au σ.env o.dst x,σ.H⟩
  | none=>False
def sc (P:Program) (T:Ty) (Mv:Nat->Prop) (G:YI) (N:Fr) (mvd db hv:List Nat) (ex:List (Nat×AV)) (ops:Array Oper) (i:Nat) (o:Oper) (σ:St) (K:St->Prop):Prop:=c8 N o/\o.guard=none/\
 if db.contains i=true then (match iR T G σ.env o with
  | some (c,y)=>c/\K ⟨au σ.env o.dst (.d y),σ.H⟩
  | none=>False)
 else if hv.contains i=true then (match Y0 o.op with
  | some c=>match ZS G σ.env c with
   | some (g,xs)=>rm P T Mv G mvd ops ex g xs σ o.dst K
   | none=>False
  | none=>False)
 else kindOf o.op≠9/\jk G ex i o σ.env/\match Y0 o.op with
  | some c=>kc P G c σ.env o.dst σ.H [] [] K
  | none=>uP T G Mv mvd o σ K
def qI (P:Program) (T:Ty) (Mv:Nat->Prop) (G:YI) (N:Fr) (mvd db hv:List Nat) (ex:List (Nat×AV)) (ops:Array Oper) (K:St->Prop):List (Nat×Oper)->St->Prop
 | [],σ=>K σ
 | (i,o) :: rest,σ=>sc P T Mv G N mvd db hv ex ops i o σ (qI P T Mv G N mvd db hv ex ops K rest)
theorem C5 {mvd db hv:List Nat} {ex:List (Nat×AV)} {K:St->Prop}:∀ (l:List Nat) (σ:St),(∀ i∈l,i < ops.size)->j8 mvd σ.env->qI P T Mv G N mvd db hv ex ops K (YP ops l) σ->∃ aY,K aY/\fX (j7 P T Mv G N mvd db hv ex ops) ops l σ aY:=by
 intro l
 induction l with
 | nil=>intro σ _ _ h;exact⟨σ,h,rfl⟩
 | cons i l ih=>
  intro σ hl ZQ h;have hi:=hl i (by simp)
  have ho:ops[i]? = some ops[i]:=by simp[hi]
  simp only[YP,ho]at h;generalize ops[i]=o at ho h;simp only[qI,sc]at h;obtain⟨hd,bW,h⟩:=h
  have fin:∀ YK,j7 P T Mv G N mvd db hv ex ops i o σ YK->j8 mvd YK.env->qI P T Mv G N mvd db hv ex ops K (YP ops l) YK->∃ aY,K aY/\fX (j7 P T Mv G N mvd db hv ex ops) ops (i :: l) σ aY:=fun YK hs hE h1=>by
   obtain⟨aY,hk,hr⟩:=ih YK (fun j hj=>hl j (by simp[hj])) hE h1;exact⟨aY,hk,o,ho,YK,hs,hr⟩
  split at h
  .rename_i hb;split at h
   .rename_i c y hw;obtain⟨hc,h⟩:=h;exact fin _ ⟨hd,bW,ZQ,.inl ⟨hb,c,y,hw,hc,rfl⟩⟩ (ZQ.put (fL.d _ _) _) h
   .exact h.elim
  .rename_i hb
   have hb:db.contains i=false:=by simpa using hb
   split at h
   .rename_i hv1;split at h
    .rename_i c hc;split at h
     .rename_i g xs ht;obtain⟨y,H2,h0,h1,h2,h3,h⟩:=h;exact fin _ ⟨hd,bW,ZQ,.inr (.inl ⟨hb,hv1,c,g,xs,y,H2,hc,ht,h0,h1,h2,h3,rfl⟩)⟩ (ZQ.put h3 _) h
     .exact h.elim
    .exact h.elim
   .rename_i hv1
    have hv1:hv.contains i=false:=by simpa using hv1
    obtain⟨hk,je,h⟩:=h;split at h
    .rename_i c hc;obtain⟨y,g,ds,ht,hp,dN,h⟩:=h;refine fin _ ⟨hd,bW,ZQ,.inr (.inr ⟨hb,hv1,hk,je,.d y,σ.H,?_,fL.d _ _,rfl⟩)⟩ (ZQ.put (fL.d _ _) _) h;unfold Ex;simp only[hc];exact⟨y,⟨g,_,ht,.inl ⟨ds,rfl,hp⟩⟩,rfl,trivial⟩
    .rename_i hc;unfold uP at h;split at h
     .rename_i hw;split at h
      .rename_i c x YK h1;obtain⟨YY,dN,h⟩:=h;have he:=si hk h1;obtain⟨e,H⟩:=σ;obtain⟨e1,H1⟩:=YK;dsimp only at he;subst he;refine fin _ ⟨hd,bW,ZQ,.inr (.inr ⟨hb,hv1,hk,je,x,H1,?_,dN,rfl⟩)⟩ (ZQ.put dN _) h;unfold Ex;simp only[hc];rw[if_pos hw];exact⟨c,h1,YY⟩
      .exact h.elim
     .rename_i hw;split at h
      .rename_i c x h1;obtain⟨YY,dN,h⟩:=h;refine fin _ ⟨hd,bW,ZQ,.inr (.inr ⟨hb,hv1,hk,je,x,σ.H,?_,dN,rfl⟩)⟩ (ZQ.put dN _) h;unfold Ex;simp only[hc];rw[if_neg hw];exact⟨c,h1,YY,trivial⟩
      .exact h.elim
end
attribute [simp] sc jk uP
