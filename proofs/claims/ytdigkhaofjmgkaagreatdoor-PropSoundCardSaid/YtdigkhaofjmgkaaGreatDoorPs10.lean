/- Parts. -/
import Derived.Test.YtdigkhaofjmgkaaGreatDoorPs9
import Derived.Scope
set_option linter.unusedSectionVars false
set_option linter.unusedSimpArgs false
set_option linter.unusedVariables false
namespace Go.Av
def R0 (Q:Exit->St->Prop):Exit->St->Prop
 | .goto _,_=>False
 | e,σ=>Q e σ
section
variable {P:Program} {Mv X:Nat->Prop} {G:Yt} {N:Fr} {σ:St}
end
attribute [simp] R0
end Go.Av
namespace Go.Av
section
variable {P:Program} {T:Ty} {Mv X:Nat->Prop} {G:Yt} {N:Fr} {w:World} {μ:Mu} {a:Act} {σ:St}
def jY (mvd:List Nat) (e:Env):Prop:=∀ r∈mvd,YT r e=e
def fH (mvd:List Nat) (x:AV):Prop:=∀ r∈mvd,x.kill r=x
theorem jY.put {mvd:List Nat} {e:Env} (h:jY mvd e) {x:AV} (hx:fH mvd x) (d:Option Tmp):jY mvd (aw e d x):=fun r hr=>by rw[w8,h r hr,hx r hr]
theorem fH.d (mvd:List Nat) (y:D):fH mvd (.d y):=fun _ _=>rfl
theorem RV.off {w':World} {ak:Mu} {mvd:List Nat} (aB:Ev (fun r=>r∈mvd) w μ w' ak):∀ {v:Value} {x:AV},RV w X μ v x->fH mvd x->RV w' X ak v x:=by
 intro v x hr;have ne:∀ {q:Nat},(∀ r∈mvd,¬ q=r)->∀ m,μ q=some m->ak q=some m:=fun h m hm=>aB.kept _ m hm fun abg=>h _ abg rfl
 have sub:∀ {l:List AV},(∀ r∈mvd,AV.kill.go r l=l)->∀ (j:Nat) (c:AV),l[j]? = some c->fH mvd c:=fun {l} h j c hc r hr=>by
  have:=h r hr;rw[AV.go_eq]at this;have h2:=congrArg (fun l:List AV=>l[j]?) this;simp only[List.getElem?_map,hc,Option.map_some,Option.some.injEq]at h2;exact h2
 induction hr with
 | d h'=>intro _;exact .d (h'.ev aB)
 | own hm h'=>
  intro ho;refine .own (ne (fun r hr e=>?_) _ hm) h';have:=ho r hr;simp[AV.kill,e]at this
 | ref hm hb=>
  intro ho;refine .ref (ne (fun r hr e=>?_) _ hm) hb;have:=ho r hr;simp[AV.kill,e]at this
 | agg hn _ ih=>
  intro ho;exact .agg hn fun j u c hu hc=>ih j u c hu hc (sub (fun r hr=>by have:=ho r hr;simpa[AV.kill]using this) j c hc)
 | aR hn _ ih=>
  intro ho;exact .aR hn fun j u c hu hc=>ih j u c hu hc (sub (fun r hr=>by have:=ho r hr;simpa[AV.kill]using this) j c hc)
 | bg _ ih=>intro ho;exact .bg (ih fun r hr=>by have:=ho r hr;simpa[AV.kill]using this)
 | bm _ ih=>intro ho;exact .bm (ih fun r hr=>by have:=ho r hr;simpa[AV.kill]using this)
 | fn hn _ ih=>
  intro ho;exact .fn hn fun j u c hu hc=>ih j u c hu hc (sub (fun r hr=>by have:=ho r hr;simpa[AV.kill]using this) j c hc)
 | mp hm hb=>
  intro ho;refine .mp (ne (fun r hr e=>?_) _ hm) hb;have:=ho r hr;simp[AV.kill,e]at this
 | dead u=>intro _;exact .dead u
def HC (P:Program) (G:Yt) (mvd:List Nat) (g:FuncId) (xs:List AV) (H:Heap) (y:AV) (H2:Heap):Prop:=∀ (Mv X:Nat->Prop) (N:Fr) (e:Env),(∀ r∈mvd,Mv r)->jY mvd e->gI P Mv X G N g xs ⟨e,H⟩ fun x af=>x=y/\af=⟨e,H2⟩
theorem HC.of {mvd:List Nat} {g:FuncId} {xs:List AV} {H H2:Heap} {y:AV} (h:∀ (X:Nat->Prop) (N:Fr) (e:Env),gI P (fun r=>r∈mvd) X G N g xs ⟨e,H⟩ fun x af=>x=y/\af.H=H2):HC P G mvd g xs H y H2:=fun Mv X N e cW dR=>by
 refine⟨(h X N e).1,fun w μ a vs hi hn hv=>((h X N e).2 w μ a vs hi hn hv).mono fun e' w' ⟨v,x,af,ak,he,⟨Bo,hH⟩,ax,hr,aB⟩=>?_⟩;subst hH;refine⟨v,x,⟨e,af.H⟩,ak,he,⟨Bo,rfl⟩,⟨ax.aL,⟨hi.env.defers,hi.env.size,fun i z hz=>?_⟩,ax.eZ⟩,hr,aB.weaken fun r _ _ h=>cW r h⟩;obtain⟨u,hu,hru⟩:=hi.env.slot i z hz;refine⟨u,hu,RV.off aB hru fun r hr=>?_⟩;have h1:=congrFun (dR r hr) i;replace hz:e i=some z:=hz;simpa[YT,hz]using h1
theorem HC.mc {mvd:List Nat} {fx:List Nat} {g:FuncId} {ZL xs:List AV} {H:Heap} {YD Zb:List (Nat×Row)} {y:AV} (hc:MC P G fx g xs (ah YD) y (ah Zb)) (hx:ZL.map (AV.tr (cM (YD.map (·.1))) (cL (YD.map (·.1))))=xs)
  (hH:∀ p∈YD,(H p.1).map (Row.tr (cM (YD.map (·.1))) (cL (YD.map (·.1))))=ah YD p.1) (hd:∀ p∈Zb,(YD.map (·.1)).contains p.1=true\/H p.1=none) (hm:∀ r∈YD.map (·.1),fx.contains r=false->r∈mvd) :
  HC P G mvd g ZL H y (Z9 (ah Zb) (cy (Zp (YD.map (·.1))) (ZK (YD.map (·.1)) fx) (gZ (YD.map (·.1)) fx) H)):=.of fun X N e=>by
 refine gI.xf hc hx (funext (xL hH)).symm (fun q hq=>?_) (fun r hr=>hm r (List.contains_iff_mem.1 hr)) ⟨rfl,rfl⟩
 have abg:∀ l:List (Nat×Row),(ah l q).isSome=true->∃ p∈l,p.1=q:=by
  intro l
  induction l with
  | nil=>intro h;simp[ah]at h
  | cons p l ih=>
   intro h;simp only[ah,List.lookup]at h
   cases lH:(q == p.1) with
   | true=>exact⟨p,by simp,by simpa using (beq_iff_eq.1 lH).symm⟩
   | false=>
    rw[lH]at h;obtain⟨p',h1,h2⟩:=ih h;exact⟨p',by simp[h1],h2⟩
 obtain⟨p,hp,rfl⟩:=abg Zb hq;exact hd p hp
variable {ops:Array Oper} {Step:Nat->Oper->St->St->Prop} {cp:Nat->Nat->Oper->Oper->Bool}
def nX (Step:Nat->Oper->St->St->Prop) (cp:Nat->Nat->Oper->Oper->Bool) (ops:Array Oper):Prop:=∀ i j oi oj,ops[i]? = some oi->ops[j]? = some oj->cp i j oi oj=true->∀ σ ay Y6,Step i oi σ ay->Step j oj ay Y6->∃ dy,Step j oj σ dy/\Step i oi dy Y6
def Sound (P:Program) (X:Nat->Prop) (G:Yt) (N:Fr) (Mv:Nat->Prop) (Step:Nat->Oper->St->St->Prop) (ops:Array Oper):Prop:=∀ i o,ops[i]? = some o->∀ σ af,Step i o σ af->∀ w μ a,In w X G μ N a σ->∀ {Q:Exit->Act->World->Prop} {K:Act->World->Prop},(∀ w' ak a',In w' X G ak N a' af->Ev Mv w μ w' ak->K a' w')->wpOpIn (wd N.ro) 0 P ops Q i K a w
def fT (Step:Nat->Oper->St->St->Prop) (ops:Array Oper):List Nat->St->St->Prop
 | [],σ,af=>σ=af
 | i :: l,σ,af=>∃ o,ops[i]? = some o/\∃ ay,Step i o σ ay/\fT Step ops l ay af
theorem U8 (rp:nX Step cp ops) {p:Nat} {op:Oper} (hp:ops[p]? = some op):∀ (l1:List Nat) {l2:List Nat} {σ af:St},(∀ q∈l1,∀ oq,ops[q]? = some oq->cp q p oq op=true)->fT Step ops (l1 ++ p :: l2) σ af->fT Step ops (p :: (l1 ++ l2)) σ af:=by
 intro l1
 induction l1 with
 | nil=>intro l2 σ af _ h;exact h
 | cons q l1 ih=>
  intro l2 σ af bu h;obtain⟨oq,hq,ay,s1,rest⟩:=h;obtain⟨o',Y9,Y6,s2,nC⟩:=ih (fun q' fP=>bu q' (by simp[fP])) rest;rw[hp]at Y9;obtain rfl:=Option.some.inj Y9;obtain⟨dy,f1,f2⟩:=rp q p oq op hq hp (bu q (by simp) oq hq) σ ay Y6 s1 s2;exact⟨op,hp,dy,f1,oq,hq,Y6,f2,nC⟩
def kZ (cp:Nat->Nat->Oper->Oper->Bool) (ord:List Nat) (ops:Array Oper):Bool:=
 let t:=tb ops
 ord.length == ops.size && (ord.all fun i=>decide (i < ops.size)) && ((List.range ops.size).all fun i=>ord.contains i) && decide ord.Nodup &&
 ((List.range ops.size).all fun j=>match ops[j]? with
  | some oj=>oj.after.all fun e=>!Region.binds .any e || e.on < j
  | none=>true) &&
 go t ord
where
 go (t:List Nat):List Nat->Bool
 | []=>true
 | a :: l=>(l.all fun b=>match ops[a]?,ops[b]? with
  | some oa,some ob=>(oa.after.all fun e=>!Region.binds .any e || !(e.on == b)) && ((t.getD b 0).testBit a || cp a b oa ob)
  | _,_=>true) && go t l
def acR (cp:Nat->Nat->Oper->Oper->Bool) (ops:Array Oper) (a b:Nat):Prop:=∀ oa ob,ops[a]? = some oa->ops[b]? = some ob->
 (∀ e∈oa.after,Region.binds .any e=true->e.on≠b)/\(((tb ops).getD b 0).testBit a=true\/cp a b oa ob=true)
theorem HQ:∀ {l:List Nat},kZ.go cp ops (tb ops) l=true->l.Pairwise (acR cp ops)
 | [],_=>.nil
 | a :: l,h=>by
  simp only[kZ.go,Bool.and_eq_true]at h;refine .cons (fun b hb oa ob np nq=>?_) (HQ h.2);have:=List.all_eq_true.1 h.1 b hb;simp only[np,nq,Bool.and_eq_true,Bool.or_eq_true]at this;refine⟨fun e he mX heq=>?_,this.2⟩;have h1:=Array.all_eq_true_iff_forall_mem.1 this.1 e he;simp[mX,heq]at h1
theorem Kw (bw:Sound P X G N Mv Step ops) (rp:nX Step cp ops) (Yv:∀ j oj,ops[j]? = some oj->∀ e∈oj.after,Region.binds .any e=true->e.on < j) {Q:Exit->St->Prop} {w0:World} {eX:Mu} {aX:St} (hQ:Q .normal aX):∀ (n:Nat) (R:List Nat) (listed:Array Bool) (w:World) (μ:Mu) (a:Act) (σ:St),R.length=n->R.Nodup->
  (∀ j,j∈R↔j < ops.size/\listed.getD j true=false)->listed.size=ops.size->R.Pairwise (acR cp ops)->
  (∀ j oj,ops[j]? = some oj->listed.getD j false=true->∀ e∈oj.after,Region.binds .any e=true->listed.getD e.on false=true)->fT Step ops R σ aX->In w X G μ N a σ->Ev Mv w0 eX w μ->
  wpAnyIn (wd N.ro) 0 P .any ops (After Mv X G N w0 eX Q) n listed a w:=by
 intro n
 induction n with
 | zero=>
  intro R listed w μ a σ hl _ hR aK _ _ bt hi aB;have:R=[]:=List.eq_nil_of_length_eq_zero hl;subst this
  have hr:Region.ready .any ops listed=[]:=by
   apply List.eq_nil_iff_forall_not_mem.2;intro j hj;obtain⟨h1,o,ho,_⟩:=mem_ready.1 hj;exact absurd ((hR j).2 ⟨(Array.getElem?_eq_some_iff.1 ho).1,h1⟩) (by simp)
  have:σ=aX:=bt;subst this;exact⟨hr,μ,σ,hQ,hi,aB⟩
 | succ n ih=>
  intro R listed w μ a σ hl fj hR aK eL gr bt hi aB;refine⟨fun hr=>?_,fun i lD=>?_⟩
  .cases R with
   | nil=>simp at hl
   | cons j R=>
    obtain⟨gu,fY⟩:=(hR j).1 (by simp)
    have ba:ops[j]? = some ops[j]:=by simp[gu]
    have hjr:j∈Region.ready .any ops listed:=by
     refine mem_ready.2 ⟨fY,ops[j],ba,fun e he hb=>?_⟩;have abx:=Yv j ops[j] ba e he hb
     have bU:e.on < ops.size:=by omega
     have aG:e.on ∉ (j :: R):=by
      intro hm
      rcases List.mem_cons.1 hm with h | h
      .omega
      .exact ((List.pairwise_cons.1 eL).1 _ h ops[j] ops[e.on] ba (by simp[bU])).1 e he hb rfl
     have:=mt (hR e.on).2 aG
     have ZF:e.on < listed.size:=by omega
     simp only[bU,true_and,Array.getD_eq_getD_getElem?]at this ⊢;simp[ZF]at this ⊢;exact this
    rw[hr]at hjr;cases hjr
  .obtain⟨cE,oi,YI,bu⟩:=mem_ready.1 lD;have lB:i∈R:=(hR i).2 ⟨(Array.getElem?_eq_some_iff.1 YI).1,cE⟩;obtain⟨R1,R2,rfl⟩:=List.append_of_mem lB
   have lz:=U8 rp YI R1 (fun q hq oq hoq=>by
    have nt:acR cp ops q i:=(List.pairwise_append.1 eL).2.2 q hq i (by simp)
    rcases (nt oq oi hoq YI).2 with h | h
    .exfalso;have hlq:=sc Yv gr i i oi (Nat.le_refl _) YI bu q h;have e7:=((hR q).1 (by simp[hq])).2
     have lI:q < listed.size:=by have:=(Array.getElem?_eq_some_iff.1 hoq).1;omega
     simp[Array.getD_eq_getD_getElem?,lI]at hlq e7;rw[hlq]at e7;cases e7
    .exact h) bt
   obtain⟨o',Y9,ay,hstep,bx⟩:=lz;rw[YI]at Y9;obtain rfl:=Option.some.inj Y9;refine bw i oi YI _ _ hstep _ _ _ hi fun w' ak a' ax aao=>?_
   have lG:(R1 ++ R2).Nodup:=by
    have:=fj;rw[List.nodup_append]at this ⊢;obtain⟨g1,g2,g3⟩:=this;exact⟨g1,(List.nodup_cons.1 g2).2,fun x hx y hy=>g3 x hx y (by simp[hy])⟩
   have lC:i ∉ R1 ++ R2:=by
    have:=fj;rw[List.nodup_append]at this;obtain⟨g1,g2,g3⟩:=this;intro hm
    rcases List.mem_append.1 hm with h | h
    .exact g3 i h i (by simp) rfl
    .exact (List.nodup_cons.1 g2).1 h
   refine ih (R1 ++ R2) _ w' ak a' ay (by simp at hl ⊢;omega) lG (fun j=>?_) (by simpa using aK) ?_ ?_ bx ax (aB.trans aao)
   .by_cases cI:j=i
    .subst cI
     have ZF:j < listed.size:=by rw[aK];exact (Array.getElem?_eq_some_iff.1 YI).1
     simp[ZF];simpa using lC
    .rw[getD_set_ne true (Ne.symm cI)];rw[<- hR j];simp[cI]
   .rw[List.pairwise_append]at eL ⊢;obtain⟨g1,g2,g3⟩:=eL;exact⟨g1,(List.pairwise_cons.1 g2).2,fun x hx y hy=>g3 x hx y (by simp[hy])⟩
   .intro j oj ba cQ e he hb;by_cases cI:j=i
    .subst cI;rw[YI]at ba;obtain rfl:=Option.some.inj ba;exact getD_set_true (bu e he hb)
    .rw[getD_set_ne false (Ne.symm cI)]at cQ;exact getD_set_true (gr j oj ba cQ e he hb)
theorem uT (hm:P.follows .mixedOrders=true) (bw:Sound P X G N Mv Step ops) (rp:nX Step cp ops) (ord:List Nat) {id:Nat} (bp:kZ cp ord ops=true) {Q:Exit->St->Prop} {σ:St} (h:(∀ i∈ord,i < ops.size)->∃ aX,Q .normal aX/\fT Step ops ord σ aX):AW P Mv X G N (.region id ops true) Q σ:=fun w μ a hi=>by
 unfold kZ at bp;simp only[Bool.and_eq_true]at bp;obtain⟨⟨⟨⟨⟨h1,h2⟩,h3⟩,h4⟩,h5⟩,h6⟩:=bp
 have hlen:ord.length=ops.size:=by simpa using h1
 have Yv:∀ i∈ord,i < ops.size:=fun i hi=>by simpa using List.all_eq_true.1 h2 i hi
 have bu:∀ i,i < ops.size->i∈ord:=fun i hi=>by simpa using List.all_eq_true.1 h3 i (List.mem_range.2 hi)
 have fj:ord.Nodup:=by simpa using h4
 have nc:∀ j oj,ops[j]? = some oj->∀ e∈oj.after,Region.binds .any e=true->e.on < j:=fun j oj ba e he hb=>by
  have:=List.all_eq_true.1 h5 j (List.mem_range.2 (Array.getElem?_eq_some_iff.1 ba).1);simp only[ba]at this;have:=Array.all_eq_true_iff_forall_mem.1 this e he;simpa[hb]using this
 obtain⟨aX,hQ,bt⟩:=h Yv;refine wpIn_region_any hm ?_;obtain⟨ax,aB⟩:=hi.iW (Mv:=Mv) (bQ.drew w);refine Kw bw rp nc hQ ops.size ord _ w.drew μ a σ hlen fj (fun j=>?_) (by simp) (HQ h6) ?_ bt ax aB
 .constructor
  .intro hj;have:=Yv j hj;simp[Array.getD_eq_getD_getElem?,this]
  .intro hj;exact bu j hj.1
 .intro j oj ba cQ;have hj:=(Array.getElem?_eq_some_iff.1 ba).1;simp[Array.getD_eq_getD_getElem?,hj]at cQ
def fG (T:Ty) (ops:Array Oper) (H H2:Heap) (p:Nat×AV):Prop:=match ops[p.1]? with
 | some o=>match o.op with
  | .load t _=>iL T H t p.2=iL T H2 t p.2
  | _=>False
 | none=>False
def jf (G:Yt) (ex:List (Nat×AV)) (i:Nat) (o:Oper) (e:Env):Prop:=match ex.lookup i with
 | some pv=>match o.op with
  | .load _ x=>aT G e x=some pv
  | _=>False
 | none=>True
def Ke (P:Program) (T:Ty) (Mv:Nat->Prop) (G:Yt) (mvd:List Nat) (ops:Array Oper) (ex:List (Nat×AV)) (o:Oper) (σ af:St):Prop:=∃ c g xs y H2,YK o.op=some c/\ZC G σ.env c=some (g,xs)/\(∀ r∈mvd,Mv r)/\HC P G mvd g xs σ.H y H2/\(∀ p∈ex,fG T ops σ.H H2 p)/\fH mvd y/\af=⟨aw σ.env o.dst y,H2⟩
def jX (P:Program) (T:Ty) (Mv:Nat->Prop) (G:Yt) (N:Fr) (mvd db hv:List Nat) (ex:List (Nat×AV)) (ops:Array Oper) (i:Nat) (o:Oper) (σ af:St):Prop:=
 cZ N o/\o.guard=none/\jY mvd σ.env/\((db.contains i=true/\∃ c y,iS T G σ.env o=some (c,y)/\c/\af=⟨aw σ.env o.dst (.d y),σ.H⟩)\/
  (db.contains i=false/\hv.contains i=true/\Ke P T Mv G mvd ops ex o σ af)\/
  (db.contains i=false/\hv.contains i=false/\kindOf o.op≠9/\jf G ex i o σ.env/\∃ x H',Ex P T Mv G o σ.env σ.H x H'/\fH mvd x/\af=⟨aw σ.env o.dst x,H'⟩))
theorem xl (hg:Good P T) (mvd db hv:List Nat) (ex:List (Nat×AV)):Sound P X G N Mv (jX P T Mv G N mvd db hv ex ops) ops:=fun i o ho σ af h w μ a hi Q K hk=>by
 obtain⟨hd,YL,ZB,h⟩:=h
 have dt:∀ d,o.dst=some d->d < N.n:=fun d e=>by unfold cZ at hd;rw[e]at hd;exact hd
 rcases h with⟨_,c,y,h1,h2,rfl⟩ | ⟨_,_,c,g,xs,y,H2,hc,ht,cW,gq,_,_,rfl⟩ | ⟨_,_,h9,_,x,H',h1,_,rfl⟩
 .unfold wpOpIn;simp only[ho];rw[o9 hi (fU YL),if_pos rfl];refine x7 (fun c e=>by simp[iS,e]at h1) ?_;obtain⟨v,w',hr,ax,Zt,aB⟩:=D2 (Mv:=Mv) hg hi h1 h2;unfold Oper.wp;rw[hr];exact hk _ μ _ (ax.put Zt dt) aB
 .unfold wpOpIn;simp only[ho];rw[o9 hi (fU YL),if_pos rfl];refine (sB (Mv:=Mv) (K:=fun ay=>ay=⟨aw σ.env o.dst y,H2⟩) hg hi dt ?_ fun w' ak a' ay e ax aB=>hk w' ak a' (e ▸ ax) aB);unfold Z3;simp only[hc,ht]
  exact (gq Mv X N σ.env cW ZB).mono fun x af ⟨e1,e2⟩=>by rw[e1,e2]
 .exact qq hg ⟨hd,.inl ⟨fU YL,h1.to⟩⟩ hi ho hk
def sj (db hv:List Nat) (ex:List (Nat×AV)) (ops:Array Oper) (i j:Nat) (oi oj:Oper):Bool:=oi.apart ops oj && (db.contains i || db.contains j ||
 (if hv.contains i then !hv.contains j && (kindOf oj.op == 0 || (ex.lookup j).isSome) else if hv.contains j then kindOf oi.op == 0 || (ex.lookup i).isSome else abk (kindOf oi.op) (kindOf oj.op)))
theorem xg {ex:List (Nat×AV)} {i:Nat} {pv:AV} (h:ex.lookup i=some pv):(i,pv)∈ex:=by
 induction ex with
 | nil=>cases h
 | cons p ex ih=>
  rw[List.lookup_cons]at h;split at h
  .rename_i he;obtain rfl:=Option.some.inj h
   have:i=p.1:=by simpa using he
   rw[this];simp
  .exact List.mem_cons_of_mem _ (ih h)
theorem rz {i:Nat} {o:Oper} (ho:ops[i]? = some o) {ex:List (Nat×AV)} {pv:AV} (hl:ex.lookup i=some pv) {e:Env} {H H2 H':Heap} {x:AV} (bT:jf G ex i o e) (hs:fG T ops H H2 (i,pv)) (h:Ex P T Mv G o e H x H'):H'=H/\Ex P T Mv G o e H2 x H2:=by
 unfold jf at bT
 rw[hl]at bT
 unfold fG at hs;simp only[ho]at hs;obtain⟨dst,op,type,pos,after,guard⟩:=o;dsimp only at bT hs
 cases op<;>dsimp only at bT hs<;>try exact bT.elim
 unfold Ex at h ⊢;simp only[YK,dk,rd,Bool.false_eq_true,if_false,bT,Option.bind_some]at h ⊢;obtain⟨c,h1,h2,rfl⟩:=h;exact⟨rfl,c,by rw[<- hs];exact h1,h2,trivial⟩
theorem BX (mvd db hv:List Nat) (ex:List (Nat×AV)):nX (jX P T Mv G N mvd db hv ex ops) (sj db hv ex ops) ops:=fun i j oi oj YI ba hc σ ay Y6 h1 h2=>by
 simp only[sj,Bool.and_eq_true]at hc;obtain⟨YU,eR⟩:=hc;obtain⟨di,gi,oE,h1⟩:=h1;obtain⟨dj,gj,_,h2⟩:=h2;have cC:∀ v,dz oj.op (aw σ.env oi.dst v) σ.env:=fun v t ht=>(eG YU (e:=σ.env) (v:=v)).1 t (fB ht);have cN:∀ v,dz oi.op σ.env (aw σ.env oj.dst v):=fun v t ht=>((eG YU (e:=σ.env) (v:=v)).2.1 t (fB ht)).symm;have aG:=(eG YU (e:=σ.env) (v:=bX)).2.2;have tg:∀ {o:Oper} {c:Call} {e e':Env},YK o.op=some c->dz o.op e e'->ZC G e c=ZC G e' c:=fun {o c e e'} hc ha=>qu fun t ht=>ha t (by rw[(abj hc).1];exact ht)
 have lda:∀ {k:Nat} {o:Oper} {e e':Env},dz o.op e e'->jf G ex k o e->jf G ex k o e':=fun {k o e e'} ha h=>by
  unfold jf at h ⊢;split
  .rename_i pv hl;simp only[hl]at h;split
   .rename_i t x e6;simp only[e6]at h;rw[<- cG (x:=x) fun t' lK=>ha t' (by rw[e6,lK];simp[Op.operands])];exact h
   .rename_i ft;split at h
    .rename_i t x e6;exact absurd e6 (ft t x)
    .exact h
  .trivial
 rcases h1 with⟨bi,c,y,e1,c1,rfl⟩ | ⟨bi,vi,c,g,xs,y,H2,fM,ti,cW,bO,ZE,oy,rfl⟩ | ⟨bi,vi,k1,l1,x,H',e1,ox,rfl⟩
 .-- data first
  rcases h2 with⟨bj,c',z,e2,c2,rfl⟩ | ⟨bj,vj,c',g,xs,z,H2,jC,tj,cW,bO,ZE,oz,rfl⟩ | ⟨bj,vj,k2,l2,z,H2,e2,oz,rfl⟩
  .rw[iy (cC _)]at e2;refine⟨⟨aw σ.env oj.dst (.d z),σ.H⟩,⟨dj,gj,oE,.inl ⟨bj,c',z,e2,c2,rfl⟩⟩,di,gi,oE.put (fH.d _ _) _,.inl ⟨bi,c,y,?_,c1,?_⟩⟩
   .rw[<- iy (cN _)];exact e1
   .rw[Zk aG]
  .rw[tg jC (cC _)]at tj;refine⟨⟨aw σ.env oj.dst z,H2⟩,⟨dj,gj,oE,.inr (.inl ⟨bj,vj,c',g,xs,z,H2,jC,tj,cW,bO,ZE,oz,rfl⟩)⟩,di,gi,oE.put oz _,.inl ⟨bi,c,y,?_,c1,?_⟩⟩
   .rw[<- iy (cN _)];exact e1
   .rw[Zk aG]
  .refine⟨⟨aw σ.env oj.dst z,H2⟩,⟨dj,gj,oE,.inr (.inr ⟨bj,vj,k2,lda (cC _) l2,z,H2,e2.congr k2 (cC _),oz,rfl⟩)⟩,di,gi,oE.put oz _,.inl ⟨bi,c,y,?_,c1,?_⟩⟩
   .rw[<- iy (cN _)];exact e1
   .rw[Zk aG]
 .-- a call first
  rcases h2 with⟨bj,c',z,e2,c2,rfl⟩ | ⟨bj,vj,_⟩ | ⟨bj,vj,k2,l2,z,H3,e2,oz,rfl⟩
  .rw[iy (cC _)]at e2;refine⟨⟨aw σ.env oj.dst (.d z),σ.H⟩,⟨dj,gj,oE,.inl ⟨bj,c',z,e2,c2,rfl⟩⟩,di,gi,oE.put (fH.d _ _) _,.inr (.inl ⟨bi,vi,c,g,xs,y,H2,fM,?_,cW,bO,ZE,oy,?_⟩)⟩
   .rw[<- tg fM (cN _)];exact ti
   .rw[Zk aG]
  .rw[bi,bj,vi]at eR;simp[vj]at eR
   simp_all
  .rw[bi,bj]at eR;have n7:=e2.congr k2 (cC _);have ry:=lda (cC _) l2
   have hq:H3=H2/\Ex P T Mv G oj σ.env σ.H z σ.H:=by
    have hp:kindOf oj.op=0\/(ex.lookup j).isSome=true:=by
     simp only[Bool.false_or,vi,vj,if_true,Bool.not_false,Bool.true_and]at eR;simpa using eR
    rcases hp with hp | hp
    .exact⟨n7.keeps (by omega),n7.free hp σ.H⟩
    .obtain⟨pv,hpv⟩:=Option.isSome_iff_exists.1 hp;have hs:=ZE _ (xg hpv);refine rz ba hpv ry ?_ n7;unfold fG at hs ⊢;simp only[ba]at hs ⊢;split<;>simp_all
   obtain⟨rfl,e3⟩:=hq;refine⟨⟨aw σ.env oj.dst z,σ.H⟩,⟨dj,gj,oE,.inr (.inr ⟨bj,vj,k2,ry,z,σ.H,e3,oz,rfl⟩)⟩,di,gi,oE.put oz _,.inr (.inl ⟨bi,vi,c,g,xs,y,H3,fM,?_,cW,bO,ZE,oy,?_⟩)⟩
   .rw[<- tg fM (cN _)];exact ti
   .rw[Zk aG]
 .rcases h2 with⟨bj,c',z,e2,c2,rfl⟩ | ⟨bj,vj,c',g,xs,z,H2,jC,tj,cW,bO,ZE,oz,rfl⟩ | ⟨bj,vj,k2,l2,z,H2,e2,oz,rfl⟩
  .rw[iy (cC _)]at e2;refine⟨⟨aw σ.env oj.dst (.d z),σ.H⟩,⟨dj,gj,oE,.inl ⟨bj,c',z,e2,c2,rfl⟩⟩,di,gi,oE.put (fH.d _ _) _,.inr (.inr ⟨bi,vi,k1,lda (cN _) l1,x,H',e1.congr k1 (cN _),ox,?_⟩)⟩;rw[Zk aG]
  .rw[tg jC (cC _)]at tj;rw[bi,bj]at eR
   have hp:kindOf oi.op=0\/(ex.lookup i).isSome=true:=by
    simp only[Bool.false_or,vi,vj,if_true,Bool.false_eq_true,if_false]at eR;simpa using eR
   have qQ:=e1.congr k1 (cN z);have oP:=lda (cN z) l1
   rcases hp with hp | hp
   .obtain rfl:=e1.keeps (by omega);refine⟨⟨aw σ.env oj.dst z,H2⟩,⟨dj,gj,oE,.inr (.inl ⟨bj,vj,c',g,xs,z,H2,jC,tj,cW,bO,ZE,oz,rfl⟩)⟩,di,gi,oE.put oz _,.inr (.inr ⟨bi,vi,k1,oP,x,H2,qQ.free hp H2,ox,?_⟩)⟩;rw[Zk aG]
   .obtain⟨pv,hpv⟩:=Option.isSome_iff_exists.1 hp;have hs:=ZE _ (xg hpv);have hH:H'=σ.H:=(rz (H2:=σ.H) YI hpv l1 (by unfold fG;simp only[YI];unfold fG at hs;simp only[YI]at hs;split<;>simp_all) e1).1;subst hH;obtain⟨_,e3⟩:=rz YI hpv oP hs qQ;refine⟨⟨aw σ.env oj.dst z,H2⟩,⟨dj,gj,oE,.inr (.inl ⟨bj,vj,c',g,xs,z,H2,jC,tj,cW,bO,ZE,oz,rfl⟩)⟩,di,gi,oE.put oz _,.inr (.inr ⟨bi,vi,k1,oP,x,H2,e3,ox,?_⟩)⟩;rw[Zk aG]
  .rw[bi,bj]at eR
   have bL:fI ops oi oj=true:=by simp only[fI,Bool.and_eq_true];simp only[Bool.false_or,vi,vj,Bool.false_eq_true,if_false]at eR;exact⟨YU,eR⟩
   obtain⟨H3,f1,f2⟩:=qM (N:=N) bL ⟨di,.inl ⟨fU gi,e1⟩⟩ ⟨dj,.inl ⟨fU gj,e2⟩⟩ k1 k2
   have un:∀ {o:Oper} {e:Env} {H H':Heap} {x:AV},o.guard=none->Sx P T Mv G N ops o e H x H'->Ex P T Mv G o e H x H':=fun YL h=>by
    rcases h.2 with⟨_,h⟩ | ⟨hw,_⟩
    .exact h
    .rw[fU YL]at hw;cases hw
   refine⟨⟨aw σ.env oj.dst z,H3⟩,⟨dj,gj,oE,.inr (.inr ⟨bj,vj,k2,lda (cC _) l2,z,H3,un gj f1,oz,rfl⟩)⟩,di,gi,oE.put oz _,.inr (.inr ⟨bi,vi,k1,lda (cN _) l1,x,H2,un gi f2,ox,?_⟩)⟩;rw[Zk aG]
def q4 (P:Program) (T:Ty) (Mv:Nat->Prop) (G:Yt) (mvd:List Nat) (ops:Array Oper) (ex:List (Nat×AV)) (g:FuncId) (xs:List AV) (σ:St) (dst:Option Tmp) (K:St->Prop):Prop:=∃ y H2,(∀ r∈mvd,Mv r)/\HC P G mvd g xs σ.H y H2/\(∀ p∈ex,fG T ops σ.H H2 p)/\fH mvd y/\K ⟨aw σ.env dst y,H2⟩
theorem q4.mc {mvd:List Nat} {ex:List (Nat×AV)} {dst:Option Tmp} {K:St->Prop} {fx:List Nat} {g:FuncId} {ZL xs:List AV} {YD Zb:List (Nat×Row)} {y:AV} (hc:MC P G fx g xs (ah YD) y (ah Zb)) (hx:ZL.map (AV.tr (cM (YD.map (·.1))) (cL (YD.map (·.1))))=xs)
  (hH:∀ p∈YD,(σ.H p.1).map (Row.tr (cM (YD.map (·.1))) (cL (YD.map (·.1))))=ah YD p.1) (hd:∀ p∈Zb,(YD.map (·.1)).contains p.1=true\/σ.H p.1=none) (hm:∀ r∈YD.map (·.1),fx.contains r=false->r∈mvd) (cW:∀ r∈mvd,Mv r) (ho:∀ r∈mvd,y.kill r=y)
  (hl:∀ p∈ex,fG T ops σ.H (Z9 (ah Zb) (cy (Zp (YD.map (·.1))) (ZK (YD.map (·.1)) fx) (gZ (YD.map (·.1)) fx) σ.H)) p)
  (h:K ⟨aw σ.env dst y,Z9 (ah Zb) (cy (Zp (YD.map (·.1))) (ZK (YD.map (·.1)) fx) (gZ (YD.map (·.1)) fx) σ.H)⟩):q4 P T Mv G mvd ops ex g ZL σ dst K:=⟨y,_,cW,.mc hc hx hH hd hm,hl,ho,h⟩
def acn (T:Ty) (G:Yt) (Mv:Nat->Prop) (mvd:List Nat) (o:Oper) (σ:St) (next:St->Prop):Prop:=
 if dk o.op then match wr T G Mv σ o with
  | some (c,x,af)=>c/\(∀ r∈mvd,x.kill r=x)/\next ⟨aw af.env o.dst x,af.H⟩
  | none=>False
 else match rd T G σ o.op with
  | some (c,x)=>c/\(∀ r∈mvd,x.kill r=x)/\next ⟨aw σ.env o.dst x,σ.H⟩
  | none=>False
def rX (P:Program) (T:Ty) (Mv:Nat->Prop) (G:Yt) (N:Fr) (mvd db hv:List Nat) (ex:List (Nat×AV)) (ops:Array Oper) (i:Nat) (o:Oper) (σ:St) (K:St->Prop):Prop:=cZ N o/\o.guard=none/\
 if db.contains i=true then (match iS T G σ.env o with
  | some (c,y)=>c/\K ⟨aw σ.env o.dst (.d y),σ.H⟩
  | none=>False)
 else if hv.contains i=true then (match YK o.op with
  | some c=>match ZC G σ.env c with
   | some (g,xs)=>q4 P T Mv G mvd ops ex g xs σ o.dst K
   | none=>False
  | none=>False)
 else kindOf o.op≠9/\jf G ex i o σ.env/\match YK o.op with
  | some c=>aaj P G c σ.env o.dst σ.H [] [] K
  | none=>acn T G Mv mvd o σ K
def qt (P:Program) (T:Ty) (Mv:Nat->Prop) (G:Yt) (N:Fr) (mvd db hv:List Nat) (ex:List (Nat×AV)) (ops:Array Oper) (K:St->Prop):List (Nat×Oper)->St->Prop
 | [],σ=>K σ
 | (i,o) :: rest,σ=>rX P T Mv G N mvd db hv ex ops i o σ (qt P T Mv G N mvd db hv ex ops K rest)
theorem CP {mvd db hv:List Nat} {ex:List (Nat×AV)} {K:St->Prop}:∀ (l:List Nat) (σ:St),(∀ i∈l,i < ops.size)->jY mvd σ.env->qt P T Mv G N mvd db hv ex ops K (YA ops l) σ->∃ aX,K aX/\fT (jX P T Mv G N mvd db hv ex ops) ops l σ aX:=by
 intro l
 induction l with
 | nil=>intro σ _ _ h;exact⟨σ,h,rfl⟩
 | cons i l ih=>
  intro σ hl ZB h;have hi:=hl i (by simp)
  have ho:ops[i]? = some ops[i]:=by simp[hi]
  simp only[YA,ho]at h;generalize ops[i]=o at ho h;simp only[qt,rX]at h;obtain⟨hd,YL,h⟩:=h
  have fin:∀ ay,jX P T Mv G N mvd db hv ex ops i o σ ay->jY mvd ay.env->qt P T Mv G N mvd db hv ex ops K (YA ops l) ay->∃ aX,K aX/\fT (jX P T Mv G N mvd db hv ex ops) ops (i :: l) σ aX:=fun ay hs hE h1=>by
   obtain⟨aX,hk,hr⟩:=ih ay (fun j hj=>hl j (by simp[hj])) hE h1;exact⟨aX,hk,o,ho,ay,hs,hr⟩
  split at h
  .rename_i hb;split at h
   .rename_i c y hw;obtain⟨hc,h⟩:=h;exact fin _ ⟨hd,YL,ZB,.inl ⟨hb,c,y,hw,hc,rfl⟩⟩ (ZB.put (fH.d _ _) _) h
   .exact h.elim
  .rename_i hb
   have hb:db.contains i=false:=by simpa using hb
   split at h
   .rename_i ia;split at h
    .rename_i c hc;split at h
     .rename_i g xs ht;obtain⟨y,H2,h0,h1,h2,h3,h⟩:=h;exact fin _ ⟨hd,YL,ZB,.inr (.inl ⟨hb,ia,c,g,xs,y,H2,hc,ht,h0,h1,h2,h3,rfl⟩)⟩ (ZB.put h3 _) h
     .exact h.elim
    .exact h.elim
   .rename_i ia
    have ia:hv.contains i=false:=by simpa using ia
    obtain⟨hk,jb,h⟩:=h;split at h
    .rename_i c hc;obtain⟨y,g,ds,ht,hp,dR,h⟩:=h;refine fin _ ⟨hd,YL,ZB,.inr (.inr ⟨hb,ia,hk,jb,.d y,σ.H,?_,fH.d _ _,rfl⟩)⟩ (ZB.put (fH.d _ _) _) h;unfold Ex;simp only[hc];exact⟨y,⟨g,_,ht,.inl ⟨ds,rfl,hp⟩⟩,rfl,trivial⟩
    .rename_i hc;unfold acn at h;split at h
     .rename_i hw;split at h
      .rename_i c x ay h1;obtain⟨bL,dR,h⟩:=h;have he:=abX hk h1;obtain⟨e,H⟩:=σ;obtain⟨e1,H1⟩:=ay;dsimp only at he;subst he;refine fin _ ⟨hd,YL,ZB,.inr (.inr ⟨hb,ia,hk,jb,x,H1,?_,dR,rfl⟩)⟩ (ZB.put dR _) h;unfold Ex;simp only[hc];rw[if_pos hw];exact⟨c,h1,bL⟩
      .exact h.elim
     .rename_i hw;split at h
      .rename_i c x h1;obtain⟨bL,dR,h⟩:=h;refine fin _ ⟨hd,YL,ZB,.inr (.inr ⟨hb,ia,hk,jb,x,σ.H,?_,dR,rfl⟩)⟩ (ZB.put dR _) h;unfold Ex;simp only[hc];rw[if_neg hw];exact⟨c,h1,bL,trivial⟩
      .exact h.elim
end
attribute [simp] rX jf acn
