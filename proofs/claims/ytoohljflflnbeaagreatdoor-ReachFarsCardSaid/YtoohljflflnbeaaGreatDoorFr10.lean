/- Parts. -/
import Derived.Test.YtoohljflflnbeaaGreatDoorFr9
import Derived.Scope
set_option linter.unusedSectionVars false
set_option linter.unusedSimpArgs false
set_option linter.unusedVariables false
namespace Go.Av
def SE (Q:Exit->St->Prop):Exit->St->Prop
 | .goto _,_=>False
 | e,σ=>Q e σ
section
variable {P:Program} {Mv X:Nat->Prop} {G:ay} {N:Fr} {σ:St}
theorem NQ {n:Nat} {ds:List Deferred} {c:Code} {Q:Exit->St->Prop} (h:AW P Mv X G ⟨n,ds,none⟩ c (SE Q) σ):AW P Mv X G ⟨n,ds,none⟩ (.scope c) Q σ:=fun w μ a hi=>
 (wpIn_wide (n:=0)).2 <| wp_scope_straight (wp_mono ((wpIn_wide (n:=0)).1 (h w μ a hi)) fun e a' w' ⟨aI,aG,q,i,ev⟩=>by
  cases e with
  | goto l=>exact q.elim
  | _=>exact⟨aI,aG,q,i,ev⟩)
end
attribute [simp] SE
end Go.Av
namespace Go.Av
section
variable {P:Program} {T:Ty} {Mv X:Nat->Prop} {G:ay} {N:Fr} {w:World} {μ:Mu} {a:Act} {σ:St}
def ql (mvd:List Nat) (e:Env):Prop:=∀ r∈mvd,ef r e=e
def kT (mvd:List Nat) (x:AV):Prop:=∀ r∈mvd,x.kill r=x
theorem ql.put {mvd:List Nat} {e:Env} (h:ql mvd e) {x:AV} (hx:kT mvd x) (d:Option Tmp):ql mvd (aL e d x):=fun r hr=>by rw[GA,h r hr,hx r hr]
theorem kT.d (mvd:List Nat) (y:D):kT mvd (.d y):=fun _ _=>rfl
theorem RV.off {w':World} {aI:Mu} {mvd:List Nat} (aW:Ev (fun r=>r∈mvd) w μ w' aI):∀ {v:Value} {x:AV},RV w X μ v x->kT mvd x->RV w' X aI v x:=by
 intro v x hr;have ne:∀ {q:Nat},(∀ r∈mvd,¬ q=r)->∀ m,μ q=some m->aI q=some m:=fun h m hm=>aW.kept _ m hm fun nE=>h _ nE rfl
 have sub:∀ {l:List AV},(∀ r∈mvd,AV.kill.go r l=l)->∀ (j:Nat) (c:AV),l[j]? = some c->kT mvd c:=fun {l} h j c hc r hr=>by
  have:=h r hr;rw[AV.go_eq]at this;have h2:=congrArg (fun l:List AV=>l[j]?) this;simp only[ajK,hc,akb,IS]at h2;exact h2
 induction hr with
 | d h'=>intro _;exact .d (h'.ev aW)
 | own hm h'=>
  intro ho;refine .own (ne (fun r hr e=>?_) _ hm) h';have:=ho r hr;simp[AV.kill,e]at this
 | ref hm hb=>
  intro ho;refine .ref (ne (fun r hr e=>?_) _ hm) hb;have:=ho r hr;simp[AV.kill,e]at this
 | agg hn _ ih=>
  intro ho;exact .agg hn fun j u c hu hc=>ih j u c hu hc (sub (fun r hr=>by have:=ho r hr;simpa[AV.kill]using this) j c hc)
 | bz hn _ ih=>
  intro ho;exact .bz hn fun j u c hu hc=>ih j u c hu hc (sub (fun r hr=>by have:=ho r hr;simpa[AV.kill]using this) j c hc)
 | cf _ ih=>intro ho;exact .cf (ih fun r hr=>by have:=ho r hr;simpa[AV.kill]using this)
 | bm _ ih=>intro ho;exact .bm (ih fun r hr=>by have:=ho r hr;simpa[AV.kill]using this)
 | fn hn _ ih=>
  intro ho;exact .fn hn fun j u c hu hc=>ih j u c hu hc (sub (fun r hr=>by have:=ho r hr;simpa[AV.kill]using this) j c hc)
 | mp hm hb=>
  intro ho;refine .mp (ne (fun r hr e=>?_) _ hm) hb;have:=ho r hr;simp[AV.kill,e]at this
 | dead u=>intro _;exact .dead u
def HC (P:Program) (G:ay) (mvd:List Nat) (g:FuncId) (xs:List AV) (H:Heap) (y:AV) (H2:Heap):Prop:=∀ (Mv X:Nat->Prop) (N:Fr) (e:Env),(∀ r∈mvd,Mv r)->ql mvd e->l8 P Mv X G N g xs ⟨e,H⟩ fun x aG=>x=y/\aG=⟨e,H2⟩
theorem HC.of {mvd:List Nat} {g:FuncId} {xs:List AV} {H H2:Heap} {y:AV} (h:∀ (X:Nat->Prop) (N:Fr) (e:Env),l8 P (fun r=>r∈mvd) X G N g xs ⟨e,H⟩ fun x aG=>x=y/\aG.H=H2):HC P G mvd g xs H y H2:=fun Mv X N e fK hU=>by
 refine⟨(h X N e).1,fun w μ a vs hi hn hv=>((h X N e).2 w μ a vs hi hn hv).mono fun e' w' ⟨v,x,aG,aI,he,⟨Dh,hH⟩,aO,hr,aW⟩=>?_⟩;subst hH;refine⟨v,x,⟨e,aG.H⟩,aI,he,⟨Dh,rfl⟩,⟨aO.bq,⟨hi.env.defers,hi.env.size,fun i z hz=>?_⟩,aO.jf⟩,hr,aW.weaken fun r _ _ h=>fK r h⟩;obtain⟨u,hu,C8⟩:=hi.env.slot i z hz;refine⟨u,hu,RV.off aW C8 fun r hr=>?_⟩;have h1:=congrFun (hU r hr) i;replace hz:e i=some z:=hz;simpa[ef,hz]using h1
theorem HC.mc {mvd:List Nat} {fx:List Nat} {g:FuncId} {nP xs:List AV} {H:Heap} {b6 gd:List (Nat×Row)} {y:AV} (hc:MC P G fx g xs (aq b6) y (aq gd)) (hx:nP.map (AV.tr (fA (b6.map (·.1))) (fy (b6.map (·.1))))=xs)
  (hH:∀ p∈b6,(H p.1).map (Row.tr (fA (b6.map (·.1))) (fy (b6.map (·.1))))=aq b6 p.1) (hd:∀ p∈gd,(b6.map (·.1)).contains p.1=true\/H p.1=none) (hm:∀ r∈b6.map (·.1),fx.contains r=false->r∈mvd) :
  HC P G mvd g nP H y (nC (aq gd) (eM (fT (b6.map (·.1))) (ni (b6.map (·.1)) fx) (nh (b6.map (·.1)) fx) H)):=.of fun X N e=>by
 refine l8.R3 hc hx (funext (Hq hH)).symm (fun q hq=>?_) (fun r hr=>hm r (akq.1 hr)) ⟨rfl,rfl⟩
 have nE:∀ l:List (Nat×Row),(aq l q).isSome=true->∃ p∈l,p.1=q:=by
  intro l
  induction l with
  | nil=>intro h;simp[aq]at h
  | cons p l ih=>
   intro h;simp only[aq,List.lookup]at h
   cases pU:(q == p.1) with
   | true=>exact⟨p,ak,by simpa using (beq_iff_eq.1 pU).symm⟩
   | false=>
    rw[pU]at h;obtain⟨p',h1,h2⟩:=ih h;exact⟨p',by simp[h1],h2⟩
 obtain⟨p,hp,rfl⟩:=nE gd hq;exact hd p hp
variable {ops:Array Oper} {Step:Nat->Oper->St->St->Prop} {cp:Nat->Nat->Oper->Oper->Bool}
def j0 (T:Ty) (ops:Array Oper) (H H2:Heap) (p:Nat×AV):Prop:=match ops[p.1]? with
 | some o=>match o.op with
  | .load t _=>oF T H t p.2=oF T H2 t p.2
  | _=>False
 | none=>False
def pd (G:ay) (ex:List (Nat×AV)) (i:Nat) (o:Oper) (e:Env):Prop:=match ex.lookup i with
 | some pv=>match o.op with
  | .load _ x=>bC G e x=some pv
  | _=>False
 | none=>True
def VG (P:Program) (T:Ty) (Mv:Nat->Prop) (G:ay) (mvd:List Nat) (ops:Array Oper) (ex:List (Nat×AV)) (o:Oper) (σ aG:St):Prop:=∃ c g xs y H2,dP o.op=some c/\kr G σ.env c=some (g,xs)/\(∀ r∈mvd,Mv r)/\HC P G mvd g xs σ.H y H2/\(∀ p∈ex,j0 T ops σ.H H2 p)/\kT mvd y/\aG=⟨aL σ.env o.dst y,H2⟩
def qk (P:Program) (T:Ty) (Mv:Nat->Prop) (G:ay) (N:Fr) (mvd db hv:List Nat) (ex:List (Nat×AV)) (ops:Array Oper) (i:Nat) (o:Oper) (σ aG:St):Prop:=
 eI N o/\o.guard=none/\ql mvd σ.env/\((db.contains i=true/\∃ c y,oP T G σ.env o=some (c,y)/\c/\aG=⟨aL σ.env o.dst (.d y),σ.H⟩)\/
  (db.contains i=false/\hv.contains i=true/\VG P T Mv G mvd ops ex o σ aG)\/
  (db.contains i=false/\hv.contains i=false/\kindOf o.op≠9/\pd G ex i o σ.env/\∃ x H',Ex P T Mv G o σ.env σ.H x H'/\kT mvd x/\aG=⟨aL σ.env o.dst x,H'⟩))
theorem GU (hg:Good P T) (mvd db hv:List Nat) (ex:List (Nat×AV)):Sound P X G N Mv (qk P T Mv G N mvd db hv ex ops) ops:=fun i o ho σ aG h w μ a hi Q K hk=>by
 obtain⟨hd,de,jM,h⟩:=h
 have fm:∀ d,o.dst=some d->d < N.n:=fun d e=>by unfold eI at hd;rw[e]at hd;exact hd
 rcases h with⟨_,c,y,h1,h2,rfl⟩ | ⟨_,_,c,g,xs,y,H2,hc,ht,fK,fh,_,_,rfl⟩ | ⟨_,_,h9,_,x,H',h1,_,rfl⟩
 .unfold wpOpIn;simp only[ho];rw[tS hi (k7 de),if_pos rfl];refine xf (fun c e=>by simp[oP,e]at h1) ?_;obtain⟨v,w',hr,aO,gM,aW⟩:=OL (Mv:=Mv) hg hi h1 h2;unfold Oper.wp;rw[hr];exact hk _ μ _ (aO.put gM fm) aW
 .unfold wpOpIn;simp only[ho];rw[tS hi (k7 de),if_pos rfl];refine (B3 (Mv:=Mv) (K:=fun aT=>aT=⟨aL σ.env o.dst y,H2⟩) hg hi fm ?_ fun w' aI a' aT e aO aW=>hk w' aI a' (e ▸ aO) aW);unfold mH;simp only[hc,ht]
  exact (fh Mv X N σ.env fK jM).mono fun x aG ⟨e1,e2⟩=>by rw[e1,e2]
 .exact ze hg ⟨hd,.inl ⟨k7 de,h1.to⟩⟩ hi ho hk
def BS (db hv:List Nat) (ex:List (Nat×AV)) (ops:Array Oper) (i j:Nat) (oi oj:Oper):Bool:=oi.apart ops oj && (db.contains i || db.contains j ||
 (if hv.contains i then !hv.contains j && (kindOf oj.op == 0 || (ex.lookup j).isSome) else if hv.contains j then kindOf oi.op == 0 || (ex.lookup i).isSome else vk (kindOf oi.op) (kindOf oj.op)))
theorem GO {ex:List (Nat×AV)} {i:Nat} {pv:AV} (h:ex.lookup i=some pv):(i,pv)∈ex:=by
 induction ex with
 | nil=>cases h
 | cons p ex ih=>
  rw[List.lookup_cons]at h;split at h
  .rename_i he;obtain rfl:=AI h
   have:i=p.1:=by simpa using he
   rw[this];simp
  .exact List.mem_cons_of_mem _ (ih h)
theorem AY {i:Nat} {o:Oper} (ho:ops[i]? = some o) {ex:List (Nat×AV)} {pv:AV} (hl:ex.lookup i=some pv) {e:Env} {H H2 H':Heap} {x:AV} (dD:pd G ex i o e) (hs:j0 T ops H H2 (i,pv)) (h:Ex P T Mv G o e H x H'):H'=H/\Ex P T Mv G o e H2 x H2:=by
 unfold pd at dD
 rw[hl]at dD
 unfold j0 at hs;simp only[ho]at hs;obtain⟨dst,op,type,pos,after,guard⟩:=o;dsimp only at dD hs
 cases op<;>dsimp only at dD hs<;>try exact dD.elim
 unfold Ex at h ⊢;simp only[dP,gE,rd,ajM,if_false,dD,alp]at h ⊢;obtain⟨c,h1,h2,rfl⟩:=h;exact⟨rfl,c,by rw[<- hs];exact h1,h2,trivial⟩
theorem L0 (mvd db hv:List Nat) (ex:List (Nat×AV)):vC (qk P T Mv G N mvd db hv ex ops) (BS db hv ex ops) ops:=fun i j oi oj gL fe hc σ aT gU h1 h2=>by
 simp only[BS,IT]at hc;obtain⟨eu,jr⟩:=hc;obtain⟨di,gi,oE,h1⟩:=h1;obtain⟨dj,gj,_,h2⟩:=h2;have eU:∀ v,gq oj.op (aL σ.env oi.dst v) σ.env:=fun v t ht=>(je eu (e:=σ.env) (v:=v)).1 t (kK ht);have fB:∀ v,gq oi.op σ.env (aL σ.env oj.dst v):=fun v t ht=>((je eu (e:=σ.env) (v:=v)).2.1 t (kK ht)).symm;have bf:=(je eu (e:=σ.env) (v:=da)).2.2;have tg:∀ {o:Oper} {c:Call} {e e':Env},dP o.op=some c->gq o.op e e'->kr G e c=kr G e' c:=fun {o c e e'} hc ha=>zk fun t ht=>ha t (by rw[(vg hc).1];exact ht)
 have qQ:∀ {k:Nat} {o:Oper} {e e':Env},gq o.op e e'->pd G ex k o e->pd G ex k o e':=fun {k o e e'} ha h=>by
  unfold pd at h ⊢;split
  .rename_i pv hl;simp only[hl]at h;split
   .rename_i t x jN;simp only[jN]at h;rw[<- e8 (x:=x) fun t' qI=>ha t' (by rw[jN,qI];simp[Op.operands])];exact h
   .rename_i jj;split at h
    .rename_i t x jN;exact absurd jN (jj t x)
    .exact h
  .trivial
 rcases h1 with⟨bi,c,y,e1,c1,rfl⟩ | ⟨bi,vi,c,g,xs,y,H2,jg,ti,fK,cA,kh,oy,rfl⟩ | ⟨bi,vi,k1,l1,x,H',e1,ox,rfl⟩
 .-- data first
  rcases h2 with⟨bj,c',z,e2,c2,rfl⟩ | ⟨bj,vj,c',g,xs,z,H2,pJ,tj,fK,cA,kh,oz,rfl⟩ | ⟨bj,vj,k2,l2,z,H2,e2,oz,rfl⟩
  .rw[nZ (eU _)]at e2;refine⟨⟨aL σ.env oj.dst (.d z),σ.H⟩,⟨dj,gj,oE,.inl ⟨bj,c',z,e2,c2,rfl⟩⟩,di,gi,oE.put (kT.d _ _) _,.inl ⟨bi,c,y,?_,c1,?_⟩⟩
   .rw[<- nZ (fB _)];exact e1
   .rw[ig bf]
  .rw[tg pJ (eU _)]at tj;refine⟨⟨aL σ.env oj.dst z,H2⟩,⟨dj,gj,oE,.inr (.inl ⟨bj,vj,c',g,xs,z,H2,pJ,tj,fK,cA,kh,oz,rfl⟩)⟩,di,gi,oE.put oz _,.inl ⟨bi,c,y,?_,c1,?_⟩⟩
   .rw[<- nZ (fB _)];exact e1
   .rw[ig bf]
  .refine⟨⟨aL σ.env oj.dst z,H2⟩,⟨dj,gj,oE,.inr (.inr ⟨bj,vj,k2,qQ (eU _) l2,z,H2,e2.congr k2 (eU _),oz,rfl⟩)⟩,di,gi,oE.put oz _,.inl ⟨bi,c,y,?_,c1,?_⟩⟩
   .rw[<- nZ (fB _)];exact e1
   .rw[ig bf]
 .-- a call first
  rcases h2 with⟨bj,c',z,e2,c2,rfl⟩ | ⟨bj,vj,_⟩ | ⟨bj,vj,k2,l2,z,H3,e2,oz,rfl⟩
  .rw[nZ (eU _)]at e2;refine⟨⟨aL σ.env oj.dst (.d z),σ.H⟩,⟨dj,gj,oE,.inl ⟨bj,c',z,e2,c2,rfl⟩⟩,di,gi,oE.put (kT.d _ _) _,.inr (.inl ⟨bi,vi,c,g,xs,y,H2,jg,?_,fK,cA,kh,oy,?_⟩)⟩
   .rw[<- tg jg (fB _)];exact ti
   .rw[ig bf]
  .rw[bi,bj,vi]at jr;simp[vj]at jr
   simp_all
  .rw[bi,bj]at jr;have vO:=e2.congr k2 (eU _);have AX:=qQ (eU _) l2
   have hq:H3=H2/\Ex P T Mv G oj σ.env σ.H z σ.H:=by
    have hp:kindOf oj.op=0\/(ex.lookup j).isSome=true:=by
     simp only[ak9,vi,vj,if_true,akG,Bool.true_and]at jr;simpa using jr
    rcases hp with hp | hp
    .exact⟨vO.keeps aa,vO.free hp σ.H⟩
    .obtain⟨pv,mX⟩:=akw.1 hp;have hs:=kh _ (GO mX);refine AY fe mX AX ?_ vO;unfold j0 at hs ⊢;simp only[fe]at hs ⊢;split<;>simp_all
   obtain⟨rfl,e3⟩:=hq;refine⟨⟨aL σ.env oj.dst z,σ.H⟩,⟨dj,gj,oE,.inr (.inr ⟨bj,vj,k2,AX,z,σ.H,e3,oz,rfl⟩)⟩,di,gi,oE.put oz _,.inr (.inl ⟨bi,vi,c,g,xs,y,H3,jg,?_,fK,cA,kh,oy,?_⟩)⟩
   .rw[<- tg jg (fB _)];exact ti
   .rw[ig bf]
 .rcases h2 with⟨bj,c',z,e2,c2,rfl⟩ | ⟨bj,vj,c',g,xs,z,H2,pJ,tj,fK,cA,kh,oz,rfl⟩ | ⟨bj,vj,k2,l2,z,H2,e2,oz,rfl⟩
  .rw[nZ (eU _)]at e2;refine⟨⟨aL σ.env oj.dst (.d z),σ.H⟩,⟨dj,gj,oE,.inl ⟨bj,c',z,e2,c2,rfl⟩⟩,di,gi,oE.put (kT.d _ _) _,.inr (.inr ⟨bi,vi,k1,qQ (fB _) l1,x,H',e1.congr k1 (fB _),ox,?_⟩)⟩;rw[ig bf]
  .rw[tg pJ (eU _)]at tj;rw[bi,bj]at jr
   have hp:kindOf oi.op=0\/(ex.lookup i).isSome=true:=by
    simp only[ak9,vi,vj,if_true,ajM,if_false]at jr;simpa using jr
   have zM:=e1.congr k1 (fB z);have wM:=qQ (fB z) l1
   rcases hp with hp | hp
   .obtain rfl:=e1.keeps aa;refine⟨⟨aL σ.env oj.dst z,H2⟩,⟨dj,gj,oE,.inr (.inl ⟨bj,vj,c',g,xs,z,H2,pJ,tj,fK,cA,kh,oz,rfl⟩)⟩,di,gi,oE.put oz _,.inr (.inr ⟨bi,vi,k1,wM,x,H2,zM.free hp H2,ox,?_⟩)⟩;rw[ig bf]
   .obtain⟨pv,mX⟩:=akw.1 hp;have hs:=kh _ (GO mX);have hH:H'=σ.H:=(AY (H2:=σ.H) gL mX l1 (by unfold j0;simp only[gL];unfold j0 at hs;simp only[gL]at hs;split<;>simp_all) e1).1;subst hH;obtain⟨_,e3⟩:=AY gL mX wM hs zM;refine⟨⟨aL σ.env oj.dst z,H2⟩,⟨dj,gj,oE,.inr (.inl ⟨bj,vj,c',g,xs,z,H2,pJ,tj,fK,cA,kh,oz,rfl⟩)⟩,di,gi,oE.put oz _,.inr (.inr ⟨bi,vi,k1,wM,x,H2,e3,ox,?_⟩)⟩;rw[ig bf]
  .rw[bi,bj]at jr
   have cK:kU ops oi oj=true:=by simp only[kU,IT];simp only[ak9,vi,vj,ajM,if_false]at jr;exact⟨eu,jr⟩
   obtain⟨H3,f1,f2⟩:=zB (N:=N) cK ⟨di,.inl ⟨k7 gi,e1⟩⟩ ⟨dj,.inl ⟨k7 gj,e2⟩⟩ k1 k2
   have un:∀ {o:Oper} {e:Env} {H H':Heap} {x:AV},o.guard=none->Sx P T Mv G N ops o e H x H'->Ex P T Mv G o e H x H':=fun de h=>by
    rcases h.2 with⟨_,h⟩ | ⟨hw,_⟩
    .exact h
    .rw[k7 de]at hw;cases hw
   refine⟨⟨aL σ.env oj.dst z,H3⟩,⟨dj,gj,oE,.inr (.inr ⟨bj,vj,k2,qQ (eU _) l2,z,H3,un gj f1,oz,rfl⟩)⟩,di,gi,oE.put oz _,.inr (.inr ⟨bi,vi,k1,qQ (fB _) l1,x,H2,un gi f2,ox,?_⟩)⟩;rw[ig bf]
def uP (P:Program) (T:Ty) (Mv:Nat->Prop) (G:ay) (mvd:List Nat) (ops:Array Oper) (ex:List (Nat×AV)) (g:FuncId) (xs:List AV) (σ:St) (dst:Option Tmp) (K:St->Prop):Prop:=∃ y H2,(∀ r∈mvd,Mv r)/\HC P G mvd g xs σ.H y H2/\(∀ p∈ex,j0 T ops σ.H H2 p)/\kT mvd y/\K ⟨aL σ.env dst y,H2⟩
theorem uP.mc {mvd:List Nat} {ex:List (Nat×AV)} {dst:Option Tmp} {K:St->Prop} {fx:List Nat} {g:FuncId} {nP xs:List AV} {b6 gd:List (Nat×Row)} {y:AV} (hc:MC P G fx g xs (aq b6) y (aq gd)) (hx:nP.map (AV.tr (fA (b6.map (·.1))) (fy (b6.map (·.1))))=xs)
  (hH:∀ p∈b6,(σ.H p.1).map (Row.tr (fA (b6.map (·.1))) (fy (b6.map (·.1))))=aq b6 p.1) (hd:∀ p∈gd,(b6.map (·.1)).contains p.1=true\/σ.H p.1=none) (hm:∀ r∈b6.map (·.1),fx.contains r=false->r∈mvd) (fK:∀ r∈mvd,Mv r) (ho:∀ r∈mvd,y.kill r=y)
  (hl:∀ p∈ex,j0 T ops σ.H (nC (aq gd) (eM (fT (b6.map (·.1))) (ni (b6.map (·.1)) fx) (nh (b6.map (·.1)) fx) σ.H)) p)
  (h:K ⟨aL σ.env dst y,nC (aq gd) (eM (fT (b6.map (·.1))) (ni (b6.map (·.1)) fx) (nh (b6.map (·.1)) fx) σ.H)⟩):uP P T Mv G mvd ops ex g nP σ dst K:=⟨y,_,fK,.mc hc hx hH hd hm,hl,ho,h⟩
def DR (T:Ty) (G:ay) (Mv:Nat->Prop) (mvd:List Nat) (o:Oper) (σ:St) (next:St->Prop):Prop:=
 if gE o.op then match wr T G Mv σ o with
  | some (c,x,aG)=>c/\(∀ r∈mvd,x.kill r=x)/\next ⟨aL aG.env o.dst x,aG.H⟩
  | none=>False
 else match rd T G σ o.op with
  | some (c,x)=>c/\(∀ r∈mvd,x.kill r=x)/\next ⟨aL σ.env o.dst x,σ.H⟩
  | none=>False
def Bs (P:Program) (T:Ty) (Mv:Nat->Prop) (G:ay) (N:Fr) (mvd db hv:List Nat) (ex:List (Nat×AV)) (ops:Array Oper) (i:Nat) (o:Oper) (σ:St) (K:St->Prop):Prop:=eI N o/\o.guard=none/\
 if db.contains i=true then (match oP T G σ.env o with
  | some (c,y)=>c/\K ⟨aL σ.env o.dst (.d y),σ.H⟩
  | none=>False)
 else if hv.contains i=true then (match dP o.op with
  | some c=>match kr G σ.env c with
   | some (g,xs)=>uP P T Mv G mvd ops ex g xs σ o.dst K
   | none=>False
  | none=>False)
 else kindOf o.op≠9/\pd G ex i o σ.env/\match dP o.op with
  | some c=>sb P G c σ.env o.dst σ.H [] [] K
  | none=>DR T G Mv mvd o σ K
def zj (P:Program) (T:Ty) (Mv:Nat->Prop) (G:ay) (N:Fr) (mvd db hv:List Nat) (ex:List (Nat×AV)) (ops:Array Oper) (K:St->Prop):List (Nat×Oper)->St->Prop
 | [],σ=>K σ
 | (i,o) :: rest,σ=>Bs P T Mv G N mvd db hv ex ops i o σ (zj P T Mv G N mvd db hv ex ops K rest)
theorem Nc {mvd db hv:List Nat} {ex:List (Nat×AV)} {K:St->Prop}:∀ (l:List Nat) (σ:St),(∀ i∈l,i < ops.size)->ql mvd σ.env->zj P T Mv G N mvd db hv ex ops K (bU ops l) σ->∃ cq,K cq/\iJ (qk P T Mv G N mvd db hv ex ops) ops l σ cq:=by
 intro l
 induction l with
 | nil=>intro σ _ _ h;exact⟨σ,h,rfl⟩
 | cons i l ih=>
  intro σ hl jM h;have hi:=hl i ak
  have ho:ops[i]? = some ops[i]:=by simp[hi]
  simp only[bU,ho]at h;generalize ops[i]=o at ho h;simp only[zj,Bs]at h;obtain⟨hd,de,h⟩:=h
  have fin:∀ aT,qk P T Mv G N mvd db hv ex ops i o σ aT->ql mvd aT.env->zj P T Mv G N mvd db hv ex ops K (bU ops l) aT->∃ cq,K cq/\iJ (qk P T Mv G N mvd db hv ex ops) ops (i :: l) σ cq:=fun aT hs hE h1=>by
   obtain⟨cq,hk,hr⟩:=ih aT (fun j hj=>hl j (by simp[hj])) hE h1;exact⟨cq,hk,o,ho,aT,hs,hr⟩
  split at h
  .rename_i hb;split at h
   .rename_i c y hw;obtain⟨hc,h⟩:=h;exact fin _ ⟨hd,de,jM,.inl ⟨hb,c,y,hw,hc,rfl⟩⟩ (jM.put (kT.d _ _) _) h
   .exact h.elim
  .rename_i hb
   have hb:db.contains i=false:=by simpa using hb
   split at h
   .rename_i jO;split at h
    .rename_i c hc;split at h
     .rename_i g xs ht;obtain⟨y,H2,h0,h1,h2,h3,h⟩:=h;exact fin _ ⟨hd,de,jM,.inr (.inl ⟨hb,jO,c,g,xs,y,H2,hc,ht,h0,h1,h2,h3,rfl⟩)⟩ (jM.put h3 _) h
     .exact h.elim
    .exact h.elim
   .rename_i jO
    have jO:hv.contains i=false:=by simpa using jO
    obtain⟨hk,oY,h⟩:=h;split at h
    .rename_i c hc;obtain⟨y,g,ds,ht,hp,hU,h⟩:=h;refine fin _ ⟨hd,de,jM,.inr (.inr ⟨hb,jO,hk,oY,.d y,σ.H,?_,kT.d _ _,rfl⟩)⟩ (jM.put (kT.d _ _) _) h;unfold Ex;simp only[hc];exact⟨y,⟨g,_,ht,.inl ⟨ds,rfl,hp⟩⟩,rfl,trivial⟩
    .rename_i hc;unfold DR at h;split at h
     .rename_i hw;split at h
      .rename_i c x aT h1;obtain⟨cK,hU,h⟩:=h;have he:=BA hk h1;obtain⟨e,H⟩:=σ;obtain⟨e1,H1⟩:=aT;dsimp only at he;subst he;refine fin _ ⟨hd,de,jM,.inr (.inr ⟨hb,jO,hk,oY,x,H1,?_,hU,rfl⟩)⟩ (jM.put hU _) h;unfold Ex;simp only[hc];rw[if_pos hw];exact⟨c,h1,cK⟩
      .exact h.elim
     .rename_i hw;split at h
      .rename_i c x h1;obtain⟨cK,hU,h⟩:=h;refine fin _ ⟨hd,de,jM,.inr (.inr ⟨hb,jO,hk,oY,x,σ.H,?_,hU,rfl⟩)⟩ (jM.put hU _) h;unfold Ex;simp only[hc];rw[if_neg hw];exact⟨c,h1,cK,trivial⟩
      .exact h.elim
end
attribute [simp] Bs pd DR
