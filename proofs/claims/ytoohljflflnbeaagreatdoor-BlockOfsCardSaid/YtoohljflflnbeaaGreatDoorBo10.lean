/- Parts. -/
import Derived.Test.YtoohljflflnbeaaGreatDoorBo9
import Derived.Scope
set_option linter.unusedSectionVars false
set_option linter.unusedSimpArgs false
set_option linter.unusedVariables false
namespace Go.Av
def PO (Q:Exit->St->Prop):Exit->St->Prop
 | .goto _,_=>False
 | e,σ=>Q e σ
section
variable {P:Program} {Mv X:Nat->Prop} {G:aC} {N:Fr} {σ:St}
theorem Ln {n:Nat} {ds:List Deferred} {c:Code} {Q:Exit->St->Prop} (h:AW P Mv X G ⟨n,ds,none⟩ c (PO Q) σ):AW P Mv X G ⟨n,ds,none⟩ (.scope c) Q σ:=fun w μ a hi=>
 (wpIn_wide (n:=0)).2 <| wp_scope_straight (wp_mono ((wpIn_wide (n:=0)).1 (h w μ a hi)) fun e a' w' ⟨aH,aJ,q,i,ev⟩=>by
  cases e with
  | goto l=>exact q.elim
  | _=>exact⟨aH,aJ,q,i,ev⟩)
end
attribute [simp] PO
end Go.Av
namespace Go.Av
section
variable {P:Program} {T:Ty} {Mv X:Nat->Prop} {G:aC} {N:Fr} {w:World} {μ:Mu} {a:Act} {σ:St}
def pP (mvd:List Nat) (e:Env):Prop:=∀ r∈mvd,ez r e=e
def kB (mvd:List Nat) (x:AV):Prop:=∀ r∈mvd,x.kill r=x
theorem pP.put {mvd:List Nat} {e:Env} (h:pP mvd e) {x:AV} (hx:kB mvd x) (d:Option Tmp):pP mvd (aR e d x):=fun r hr=>by rw[ET,h r hr,hx r hr]
theorem kB.d (mvd:List Nat) (y:D):kB mvd (.d y):=fun _ _=>rfl
theorem RV.off {w':World} {aH:Mu} {mvd:List Nat} (bp:Ev (fun r=>r∈mvd) w μ w' aH):∀ {v:Value} {x:AV},RV w X μ v x->kB mvd x->RV w' X aH v x:=by
 intro v x hr;have ne:∀ {q:Nat},(∀ r∈mvd,¬ q=r)->∀ m,μ q=some m->aH q=some m:=fun h m hm=>bp.kept _ m hm fun ng=>h _ ng rfl
 have sub:∀ {l:List AV},(∀ r∈mvd,AV.kill.go r l=l)->∀ (j:Nat) (c:AV),l[j]? = some c->kB mvd c:=fun {l} h j c hc r hr=>by
  have:=h r hr;rw[AV.go_eq]at this;have h2:=congrArg (fun l:List AV=>l[j]?) this;simp only[agC,hc,ag1,IT]at h2;exact h2
 induction hr with
 | d h'=>intro _;exact .d (h'.ev bp)
 | own hm h'=>
  intro ho;refine .own (ne (fun r hr e=>?_) _ hm) h';have:=ho r hr;simp[AV.kill,e]at this
 | ref hm hb=>
  intro ho;refine .ref (ne (fun r hr e=>?_) _ hm) hb;have:=ho r hr;simp[AV.kill,e]at this
 | agg hn _ ih=>
  intro ho;exact .agg hn fun j u c hu hc=>ih j u c hu hc (sub (fun r hr=>by have:=ho r hr;simpa[AV.kill]using this) j c hc)
 | bx hn _ ih=>
  intro ho;exact .bx hn fun j u c hu hc=>ih j u c hu hc (sub (fun r hr=>by have:=ho r hr;simpa[AV.kill]using this) j c hc)
 | bZ _ ih=>intro ho;exact .bZ (ih fun r hr=>by have:=ho r hr;simpa[AV.kill]using this)
 | bm _ ih=>intro ho;exact .bm (ih fun r hr=>by have:=ho r hr;simpa[AV.kill]using this)
 | fn hn _ ih=>
  intro ho;exact .fn hn fun j u c hu hc=>ih j u c hu hc (sub (fun r hr=>by have:=ho r hr;simpa[AV.kill]using this) j c hc)
 | mp hm hb=>
  intro ho;refine .mp (ne (fun r hr e=>?_) _ hm) hb;have:=ho r hr;simp[AV.kill,e]at this
 | dead u=>intro _;exact .dead u
def HC (P:Program) (G:aC) (mvd:List Nat) (g:FuncId) (xs:List AV) (H:Heap) (y:AV) (H2:Heap):Prop:=∀ (Mv X:Nat->Prop) (N:Fr) (e:Env),(∀ r∈mvd,Mv r)->pP mvd e->lU P Mv X G N g xs ⟨e,H⟩ fun x aJ=>x=y/\aJ=⟨e,H2⟩
theorem HC.of {mvd:List Nat} {g:FuncId} {xs:List AV} {H H2:Heap} {y:AV} (h:∀ (X:Nat->Prop) (N:Fr) (e:Env),lU P (fun r=>r∈mvd) X G N g xs ⟨e,H⟩ fun x aJ=>x=y/\aJ.H=H2):HC P G mvd g xs H y H2:=fun Mv X N e gu ij=>by
 refine⟨(h X N e).1,fun w μ a vs hi hn hv=>((h X N e).2 w μ a vs hi hn hv).mono fun e' w' ⟨v,x,aJ,aH,he,⟨B2,hH⟩,aS,hr,bp⟩=>?_⟩;subst hH;refine⟨v,x,⟨e,aJ.H⟩,aH,he,⟨B2,rfl⟩,⟨aS.bu,⟨hi.env.defers,hi.env.size,fun i z hz=>?_⟩,aS.jq⟩,hr,bp.weaken fun r _ _ h=>gu r h⟩;obtain⟨u,hu,BQ⟩:=hi.env.slot i z hz;refine⟨u,hu,RV.off bp BQ fun r hr=>?_⟩;have h1:=congrFun (ij r hr) i;replace hz:e i=some z:=hz;simpa[ez,hz]using h1
theorem HC.mc {mvd:List Nat} {fx:List Nat} {g:FuncId} {pN xs:List AV} {H:Heap} {cq fR:List (Nat×Row)} {y:AV} (hc:MC P G fx g xs (aw cq) y (aw fR)) (hx:pN.map (AV.tr (fF (cq.map (·.1))) (fE (cq.map (·.1))))=xs)
  (hH:∀ p∈cq,(H p.1).map (Row.tr (fF (cq.map (·.1))) (fE (cq.map (·.1))))=aw cq p.1) (hd:∀ p∈fR,(cq.map (·.1)).contains p.1=true\/H p.1=none) (hm:∀ r∈cq.map (·.1),fx.contains r=false->r∈mvd) :
  HC P G mvd g pN H y (nQ (aw fR) (fe (fP (cq.map (·.1))) (nz (cq.map (·.1)) fx) (ny (cq.map (·.1)) fx) H)):=.of fun X N e=>by
 refine lU.Pd hc hx (funext (FH hH)).symm (fun q hq=>?_) (fun r hr=>hm r (aha.1 hr)) ⟨rfl,rfl⟩
 have ng:∀ l:List (Nat×Row),(aw l q).isSome=true->∃ p∈l,p.1=q:=by
  intro l
  induction l with
  | nil=>intro h;simp[aw]at h
  | cons p l ih=>
   intro h;simp only[aw,List.lookup]at h
   cases pw:(q == p.1) with
   | true=>exact⟨p,ak,by simpa using (beq_iff_eq.1 pw).symm⟩
   | false=>
    rw[pw]at h;obtain⟨p',h1,h2⟩:=ih h;exact⟨p',by simp[h1],h2⟩
 obtain⟨p,hp,rfl⟩:=ng fR hq;exact hd p hp
variable {ops:Array Oper} {Step:Nat->Oper->St->St->Prop} {cp:Nat->Nat->Oper->Oper->Bool}
def jH (T:Ty) (ops:Array Oper) (H H2:Heap) (p:Nat×AV):Prop:=match ops[p.1]? with
 | some o=>match o.op with
  | .load t _=>n5 T H t p.2=n5 T H2 t p.2
  | _=>False
 | none=>False
def qc (G:aC) (ex:List (Nat×AV)) (i:Nat) (o:Oper) (e:Env):Prop:=match ex.lookup i with
 | some pv=>match o.op with
  | .load _ x=>bF G e x=some pv
  | _=>False
 | none=>True
def SN (P:Program) (T:Ty) (Mv:Nat->Prop) (G:aC) (mvd:List Nat) (ops:Array Oper) (ex:List (Nat×AV)) (o:Oper) (σ aJ:St):Prop:=∃ c g xs y H2,ey o.op=some c/\lz G σ.env c=some (g,xs)/\(∀ r∈mvd,Mv r)/\HC P G mvd g xs σ.H y H2/\(∀ p∈ex,jH T ops σ.H H2 p)/\kB mvd y/\aJ=⟨aR σ.env o.dst y,H2⟩
def vZ (P:Program) (T:Ty) (Mv:Nat->Prop) (G:aC) (N:Fr) (mvd db hv:List Nat) (ex:List (Nat×AV)) (ops:Array Oper) (i:Nat) (o:Oper) (σ aJ:St):Prop:=
 gP N o/\o.guard=none/\pP mvd σ.env/\((db.contains i=true/\∃ c y,ow T G σ.env o=some (c,y)/\c/\aJ=⟨aR σ.env o.dst (.d y),σ.H⟩)\/
  (db.contains i=false/\hv.contains i=true/\SN P T Mv G mvd ops ex o σ aJ)\/
  (db.contains i=false/\hv.contains i=false/\kindOf o.op≠9/\qc G ex i o σ.env/\∃ x H',Ex P T Mv G o σ.env σ.H x H'/\kB mvd x/\aJ=⟨aR σ.env o.dst x,H'⟩))
theorem Px (hg:Good P T) (mvd db hv:List Nat) (ex:List (Nat×AV)):Sound P X G N Mv (vZ P T Mv G N mvd db hv ex ops) ops:=fun i o ho σ aJ h w μ a hi Q K hk=>by
 obtain⟨hd,e8,jy,h⟩:=h
 have jI:∀ d,o.dst=some d->d < N.n:=fun d e=>by unfold gP at hd;rw[e]at hd;exact hd
 rcases h with⟨_,c,y,h1,h2,rfl⟩ | ⟨_,_,c,g,xs,y,H2,hc,ht,gu,fv,_,_,rfl⟩ | ⟨_,_,h9,_,x,H',h1,_,rfl⟩
 .unfold wpOpIn;simp only[ho];rw[x8 hi (lA e8),if_pos rfl];refine Ad (fun c e=>by simp[ow,e]at h1) ?_;obtain⟨v,w',hr,aS,im,bp⟩:=Md (Mv:=Mv) hg hi h1 h2;unfold Oper.wp;rw[hr];exact hk _ μ _ (aS.put im jI) bp
 .unfold wpOpIn;simp only[ho];rw[x8 hi (lA e8),if_pos rfl];refine (DG (Mv:=Mv) (K:=fun bh=>bh=⟨aR σ.env o.dst y,H2⟩) hg hi jI ?_ fun w' aH a' bh e aS bp=>hk w' aH a' (e ▸ aS) bp);unfold mZ;simp only[hc,ht]
  exact (fv Mv X N σ.env gu jy).mono fun x aJ ⟨e1,e2⟩=>by rw[e1,e2]
 .exact zZ hg ⟨hd,.inl ⟨lA e8,h1.to⟩⟩ hi ho hk
def GH (db hv:List Nat) (ex:List (Nat×AV)) (ops:Array Oper) (i j:Nat) (oi oj:Oper):Bool:=oi.apart ops oj && (db.contains i || db.contains j ||
 (if hv.contains i then !hv.contains j && (kindOf oj.op == 0 || (ex.lookup j).isSome) else if hv.contains j then kindOf oi.op == 0 || (ex.lookup i).isSome else uo (kindOf oi.op) (kindOf oj.op)))
theorem E6 {ex:List (Nat×AV)} {i:Nat} {pv:AV} (h:ex.lookup i=some pv):(i,pv)∈ex:=by
 induction ex with
 | nil=>cases h
 | cons p ex ih=>
  rw[List.lookup_cons]at h;split at h
  .rename_i he;obtain rfl:=AI h
   have:i=p.1:=by simpa using he
   rw[this];simp
  .exact List.mem_cons_of_mem _ (ih h)
theorem zD {i:Nat} {o:Oper} (ho:ops[i]? = some o) {ex:List (Nat×AV)} {pv:AV} (hl:ex.lookup i=some pv) {e:Env} {H H2 H':Heap} {x:AV} (dB:qc G ex i o e) (hs:jH T ops H H2 (i,pv)) (h:Ex P T Mv G o e H x H'):H'=H/\Ex P T Mv G o e H2 x H2:=by
 unfold qc at dB
 rw[hl]at dB
 unfold jH at hs;simp only[ho]at hs;obtain⟨dst,op,type,pos,after,guard⟩:=o;dsimp only at dB hs
 cases op<;>dsimp only at dB hs<;>try exact dB.elim
 unfold Ex at h ⊢;simp only[ey,gD,rd,agE,if_false,dB,aid]at h ⊢;obtain⟨c,h1,h2,rfl⟩:=h;exact⟨rfl,c,by rw[<- hs];exact h1,h2,trivial⟩
theorem abz (mvd db hv:List Nat) (ex:List (Nat×AV)):yi (vZ P T Mv G N mvd db hv ex ops) (GH db hv ex ops) ops:=fun i j oi oj ik fD hc σ bh iy h1 h2=>by
 simp only[GH,abi]at hc;obtain⟨gL,je⟩:=hc;obtain⟨di,gi,oE,h1⟩:=h1;obtain⟨dj,gj,_,h2⟩:=h2;have fV:∀ v,iA oj.op (aR σ.env oi.dst v) σ.env:=fun v t ht=>(kD gL (e:=σ.env) (v:=v)).1 t (lP ht);have gJ:∀ v,iA oi.op σ.env (aR σ.env oj.dst v):=fun v t ht=>((kD gL (e:=σ.env) (v:=v)).2.1 t (lP ht)).symm;have bl:=(kD gL (e:=σ.env) (v:=dN)).2.2;have tg:∀ {o:Oper} {c:Call} {e e':Env},ey o.op=some c->iA o.op e e'->lz G e c=lz G e' c:=fun {o c e e'} hc ha=>z7 fun t ht=>ha t (by rw[(vh hc).1];exact ht)
 have qd:∀ {k:Nat} {o:Oper} {e e':Env},iA o.op e e'->qc G ex k o e->qc G ex k o e':=fun {k o e e'} ha h=>by
  unfold qc at h ⊢;split
  .rename_i pv hl;simp only[hl]at h;split
   .rename_i t x kb;simp only[kb]at h;rw[<- fm (x:=x) fun t' vd=>ha t' (by rw[kb,vd];simp[Op.operands])];exact h
   .rename_i jc;split at h
    .rename_i t x kb;exact absurd kb (jc t x)
    .exact h
  .trivial
 rcases h1 with⟨bi,c,y,e1,c1,rfl⟩ | ⟨bi,vi,c,g,xs,y,H2,iN,ti,gu,cN,jU,oy,rfl⟩ | ⟨bi,vi,k1,l1,x,H',e1,ox,rfl⟩
 .-- data first
  rcases h2 with⟨bj,c',z,e2,c2,rfl⟩ | ⟨bj,vj,c',g,xs,z,H2,pf,tj,gu,cN,jU,oz,rfl⟩ | ⟨bj,vj,k2,l2,z,H2,e2,oz,rfl⟩
  .rw[nH (fV _)]at e2;refine⟨⟨aR σ.env oj.dst (.d z),σ.H⟩,⟨dj,gj,oE,.inl ⟨bj,c',z,e2,c2,rfl⟩⟩,di,gi,oE.put (kB.d _ _) _,.inl ⟨bi,c,y,?_,c1,?_⟩⟩
   .rw[<- nH (gJ _)];exact e1
   .rw[iI bl]
  .rw[tg pf (fV _)]at tj;refine⟨⟨aR σ.env oj.dst z,H2⟩,⟨dj,gj,oE,.inr (.inl ⟨bj,vj,c',g,xs,z,H2,pf,tj,gu,cN,jU,oz,rfl⟩)⟩,di,gi,oE.put oz _,.inl ⟨bi,c,y,?_,c1,?_⟩⟩
   .rw[<- nH (gJ _)];exact e1
   .rw[iI bl]
  .refine⟨⟨aR σ.env oj.dst z,H2⟩,⟨dj,gj,oE,.inr (.inr ⟨bj,vj,k2,qd (fV _) l2,z,H2,e2.congr k2 (fV _),oz,rfl⟩)⟩,di,gi,oE.put oz _,.inl ⟨bi,c,y,?_,c1,?_⟩⟩
   .rw[<- nH (gJ _)];exact e1
   .rw[iI bl]
 .-- a call first
  rcases h2 with⟨bj,c',z,e2,c2,rfl⟩ | ⟨bj,vj,_⟩ | ⟨bj,vj,k2,l2,z,H3,e2,oz,rfl⟩
  .rw[nH (fV _)]at e2;refine⟨⟨aR σ.env oj.dst (.d z),σ.H⟩,⟨dj,gj,oE,.inl ⟨bj,c',z,e2,c2,rfl⟩⟩,di,gi,oE.put (kB.d _ _) _,.inr (.inl ⟨bi,vi,c,g,xs,y,H2,iN,?_,gu,cN,jU,oy,?_⟩)⟩
   .rw[<- tg iN (gJ _)];exact ti
   .rw[iI bl]
  .rw[bi,bj,vi]at je;simp[vj]at je
   simp_all
  .rw[bi,bj]at je;have uP:=e2.congr k2 (fV _);have zC:=qd (fV _) l2
   have hq:H3=H2/\Ex P T Mv G oj σ.env σ.H z σ.H:=by
    have hp:kindOf oj.op=0\/(ex.lookup j).isSome=true:=by
     simp only[ah2,vi,vj,if_true,ahw,Bool.true_and]at je;simpa using je
    rcases hp with hp | hp
    .exact⟨uP.keeps aa,uP.free hp σ.H⟩
    .obtain⟨pv,mD⟩:=aht.1 hp;have hs:=jU _ (E6 mD);refine zD fD mD zC ?_ uP;unfold jH at hs ⊢;simp only[fD]at hs ⊢;split<;>simp_all
   obtain⟨rfl,e3⟩:=hq;refine⟨⟨aR σ.env oj.dst z,σ.H⟩,⟨dj,gj,oE,.inr (.inr ⟨bj,vj,k2,zC,z,σ.H,e3,oz,rfl⟩)⟩,di,gi,oE.put oz _,.inr (.inl ⟨bi,vi,c,g,xs,y,H3,iN,?_,gu,cN,jU,oy,?_⟩)⟩
   .rw[<- tg iN (gJ _)];exact ti
   .rw[iI bl]
 .rcases h2 with⟨bj,c',z,e2,c2,rfl⟩ | ⟨bj,vj,c',g,xs,z,H2,pf,tj,gu,cN,jU,oz,rfl⟩ | ⟨bj,vj,k2,l2,z,H2,e2,oz,rfl⟩
  .rw[nH (fV _)]at e2;refine⟨⟨aR σ.env oj.dst (.d z),σ.H⟩,⟨dj,gj,oE,.inl ⟨bj,c',z,e2,c2,rfl⟩⟩,di,gi,oE.put (kB.d _ _) _,.inr (.inr ⟨bi,vi,k1,qd (gJ _) l1,x,H',e1.congr k1 (gJ _),ox,?_⟩)⟩;rw[iI bl]
  .rw[tg pf (fV _)]at tj;rw[bi,bj]at je
   have hp:kindOf oi.op=0\/(ex.lookup i).isSome=true:=by
    simp only[ah2,vi,vj,if_true,agE,if_false]at je;simpa using je
   have yD:=e1.congr k1 (gJ z);have vm:=qd (gJ z) l1
   rcases hp with hp | hp
   .obtain rfl:=e1.keeps aa;refine⟨⟨aR σ.env oj.dst z,H2⟩,⟨dj,gj,oE,.inr (.inl ⟨bj,vj,c',g,xs,z,H2,pf,tj,gu,cN,jU,oz,rfl⟩)⟩,di,gi,oE.put oz _,.inr (.inr ⟨bi,vi,k1,vm,x,H2,yD.free hp H2,ox,?_⟩)⟩;rw[iI bl]
   .obtain⟨pv,mD⟩:=aht.1 hp;have hs:=jU _ (E6 mD);have hH:H'=σ.H:=(zD (H2:=σ.H) ik mD l1 (by unfold jH;simp only[ik];unfold jH at hs;simp only[ik]at hs;split<;>simp_all) e1).1;subst hH;obtain⟨_,e3⟩:=zD ik mD vm hs yD;refine⟨⟨aR σ.env oj.dst z,H2⟩,⟨dj,gj,oE,.inr (.inl ⟨bj,vj,c',g,xs,z,H2,pf,tj,gu,cN,jU,oz,rfl⟩)⟩,di,gi,oE.put oz _,.inr (.inr ⟨bi,vi,k1,vm,x,H2,e3,ox,?_⟩)⟩;rw[iI bl]
  .rw[bi,bj]at je
   have cG:kH ops oi oj=true:=by simp only[kH,abi];simp only[ah2,vi,vj,agE,if_false]at je;exact⟨gL,je⟩
   obtain⟨H3,f1,f2⟩:=yq (N:=N) cG ⟨di,.inl ⟨lA gi,e1⟩⟩ ⟨dj,.inl ⟨lA gj,e2⟩⟩ k1 k2
   have un:∀ {o:Oper} {e:Env} {H H':Heap} {x:AV},o.guard=none->Sx P T Mv G N ops o e H x H'->Ex P T Mv G o e H x H':=fun e8 h=>by
    rcases h.2 with⟨_,h⟩ | ⟨hw,_⟩
    .exact h
    .rw[lA e8]at hw;cases hw
   refine⟨⟨aR σ.env oj.dst z,H3⟩,⟨dj,gj,oE,.inr (.inr ⟨bj,vj,k2,qd (fV _) l2,z,H3,un gj f1,oz,rfl⟩)⟩,di,gi,oE.put oz _,.inr (.inr ⟨bi,vi,k1,qd (gJ _) l1,x,H2,un gi f2,ox,?_⟩)⟩;rw[iI bl]
def tI (P:Program) (T:Ty) (Mv:Nat->Prop) (G:aC) (mvd:List Nat) (ops:Array Oper) (ex:List (Nat×AV)) (g:FuncId) (xs:List AV) (σ:St) (dst:Option Tmp) (K:St->Prop):Prop:=∃ y H2,(∀ r∈mvd,Mv r)/\HC P G mvd g xs σ.H y H2/\(∀ p∈ex,jH T ops σ.H H2 p)/\kB mvd y/\K ⟨aR σ.env dst y,H2⟩
theorem tI.mc {mvd:List Nat} {ex:List (Nat×AV)} {dst:Option Tmp} {K:St->Prop} {fx:List Nat} {g:FuncId} {pN xs:List AV} {cq fR:List (Nat×Row)} {y:AV} (hc:MC P G fx g xs (aw cq) y (aw fR)) (hx:pN.map (AV.tr (fF (cq.map (·.1))) (fE (cq.map (·.1))))=xs)
  (hH:∀ p∈cq,(σ.H p.1).map (Row.tr (fF (cq.map (·.1))) (fE (cq.map (·.1))))=aw cq p.1) (hd:∀ p∈fR,(cq.map (·.1)).contains p.1=true\/σ.H p.1=none) (hm:∀ r∈cq.map (·.1),fx.contains r=false->r∈mvd) (gu:∀ r∈mvd,Mv r) (ho:∀ r∈mvd,y.kill r=y)
  (hl:∀ p∈ex,jH T ops σ.H (nQ (aw fR) (fe (fP (cq.map (·.1))) (nz (cq.map (·.1)) fx) (ny (cq.map (·.1)) fx) σ.H)) p)
  (h:K ⟨aR σ.env dst y,nQ (aw fR) (fe (fP (cq.map (·.1))) (nz (cq.map (·.1)) fx) (ny (cq.map (·.1)) fx) σ.H)⟩):tI P T Mv G mvd ops ex g pN σ dst K:=⟨y,_,gu,.mc hc hx hH hd hm,hl,ho,h⟩
def Cv (T:Ty) (G:aC) (Mv:Nat->Prop) (mvd:List Nat) (o:Oper) (σ:St) (next:St->Prop):Prop:=
 if gD o.op then match wr T G Mv σ o with
  | some (c,x,aJ)=>c/\(∀ r∈mvd,x.kill r=x)/\next ⟨aR aJ.env o.dst x,aJ.H⟩
  | none=>False
 else match rd T G σ o.op with
  | some (c,x)=>c/\(∀ r∈mvd,x.kill r=x)/\next ⟨aR σ.env o.dst x,σ.H⟩
  | none=>False
def FP (P:Program) (T:Ty) (Mv:Nat->Prop) (G:aC) (N:Fr) (mvd db hv:List Nat) (ex:List (Nat×AV)) (ops:Array Oper) (i:Nat) (o:Oper) (σ:St) (K:St->Prop):Prop:=gP N o/\o.guard=none/\
 if db.contains i=true then (match ow T G σ.env o with
  | some (c,y)=>c/\K ⟨aR σ.env o.dst (.d y),σ.H⟩
  | none=>False)
 else if hv.contains i=true then (match ey o.op with
  | some c=>match lz G σ.env c with
   | some (g,xs)=>tI P T Mv G mvd ops ex g xs σ o.dst K
   | none=>False
  | none=>False)
 else kindOf o.op≠9/\qc G ex i o σ.env/\match ey o.op with
  | some c=>qt P G c σ.env o.dst σ.H [] [] K
  | none=>Cv T G Mv mvd o σ K
def CW (P:Program) (T:Ty) (Mv:Nat->Prop) (G:aC) (N:Fr) (mvd db hv:List Nat) (ex:List (Nat×AV)) (ops:Array Oper) (K:St->Prop):List (Nat×Oper)->St->Prop
 | [],σ=>K σ
 | (i,o) :: rest,σ=>FP P T Mv G N mvd db hv ex ops i o σ (CW P T Mv G N mvd db hv ex ops K rest)
theorem aee {mvd db hv:List Nat} {ex:List (Nat×AV)} {K:St->Prop}:∀ (l:List Nat) (σ:St),(∀ i∈l,i < ops.size)->pP mvd σ.env->CW P T Mv G N mvd db hv ex ops K (cU ops l) σ->∃ cJ,K cJ/\iJ (vZ P T Mv G N mvd db hv ex ops) ops l σ cJ:=by
 intro l
 induction l with
 | nil=>intro σ _ _ h;exact⟨σ,h,rfl⟩
 | cons i l ih=>
  intro σ hl jy h;have hi:=hl i ak
  have ho:ops[i]? = some ops[i]:=by simp[hi]
  simp only[cU,ho]at h;generalize ops[i]=o at ho h;simp only[CW,FP]at h;obtain⟨hd,e8,h⟩:=h
  have fin:∀ bh,vZ P T Mv G N mvd db hv ex ops i o σ bh->pP mvd bh.env->CW P T Mv G N mvd db hv ex ops K (cU ops l) bh->∃ cJ,K cJ/\iJ (vZ P T Mv G N mvd db hv ex ops) ops (i :: l) σ cJ:=fun bh hs hE h1=>by
   obtain⟨cJ,hk,hr⟩:=ih bh (fun j hj=>hl j (by simp[hj])) hE h1;exact⟨cJ,hk,o,ho,bh,hs,hr⟩
  split at h
  .rename_i hb;split at h
   .rename_i c y hw;obtain⟨hc,h⟩:=h;exact fin _ ⟨hd,e8,jy,.inl ⟨hb,c,y,hw,hc,rfl⟩⟩ (jy.put (kB.d _ _) _) h
   .exact h.elim
  .rename_i hb
   have hb:db.contains i=false:=by simpa using hb
   split at h
   .rename_i iS;split at h
    .rename_i c hc;split at h
     .rename_i g xs ht;obtain⟨y,H2,h0,h1,h2,h3,h⟩:=h;exact fin _ ⟨hd,e8,jy,.inr (.inl ⟨hb,iS,c,g,xs,y,H2,hc,ht,h0,h1,h2,h3,rfl⟩)⟩ (jy.put h3 _) h
     .exact h.elim
    .exact h.elim
   .rename_i iS
    have iS:hv.contains i=false:=by simpa using iS
    obtain⟨hk,oI,h⟩:=h;split at h
    .rename_i c hc;obtain⟨y,g,ds,ht,hp,ij,h⟩:=h;refine fin _ ⟨hd,e8,jy,.inr (.inr ⟨hb,iS,hk,oI,.d y,σ.H,?_,kB.d _ _,rfl⟩)⟩ (jy.put (kB.d _ _) _) h;unfold Ex;simp only[hc];exact⟨y,⟨g,_,ht,.inl ⟨ds,rfl,hp⟩⟩,rfl,trivial⟩
    .rename_i hc;unfold Cv at h;split at h
     .rename_i hw;split at h
      .rename_i c x bh h1;obtain⟨cG,ij,h⟩:=h;have he:=Ae hk h1;obtain⟨e,H⟩:=σ;obtain⟨e1,H1⟩:=bh;dsimp only at he;subst he;refine fin _ ⟨hd,e8,jy,.inr (.inr ⟨hb,iS,hk,oI,x,H1,?_,ij,rfl⟩)⟩ (jy.put ij _) h;unfold Ex;simp only[hc];rw[if_pos hw];exact⟨c,h1,cG⟩
      .exact h.elim
     .rename_i hw;split at h
      .rename_i c x h1;obtain⟨cG,ij,h⟩:=h;refine fin _ ⟨hd,e8,jy,.inr (.inr ⟨hb,iS,hk,oI,x,σ.H,?_,ij,rfl⟩)⟩ (jy.put ij _) h;unfold Ex;simp only[hc];rw[if_neg hw];exact⟨c,h1,cG,trivial⟩
      .exact h.elim
end
attribute [simp] FP qc Cv
end Go.Av
namespace Go.Av
section
variable {P:Program} {T:Ty} {Mv X:Nat->Prop} {G:aC} {N:Fr} {ops:Array Oper} {σ:St}
def Gf (P:Program) (T:Ty) (Mv:Nat->Prop) (G:aC) (N:Fr) (ap db hv:List Nat) (ex:List (Nat×AV)) (ops:Array Oper) (i:Nat) (o:Oper) (σ aJ:St):Prop:=
 (ap.contains i=true/\gP N o/\o.guard=none/\ey o.op=none/\gD o.op=true/\∃ c x bh,wr T G Mv σ o=some (c,x,bh)/\c/\aJ=⟨aR bh.env o.dst x,bh.H⟩)\/
 (ap.contains i=false/\vZ P T Mv G N [] db hv ex ops i o σ aJ)
def Dt (ap db hv:List Nat) (ex:List (Nat×AV)) (ops:Array Oper) (i j:Nat) (oi oj:Oper):Bool:=!ap.contains i && !ap.contains j && GH db hv ex ops i j oi oj
theorem abP (hg:Good P T) (ap db hv:List Nat) (ex:List (Nat×AV)):Sound P X G N Mv (Gf P T Mv G N ap db hv ex ops) ops:=fun i o ho σ aJ h w μ a hi Q K hk=>by
 rcases h with⟨_,hd,e8,hc,hw,c,x,bh,h1,h2,rfl⟩ | ⟨_,h⟩
 .refine zZ hg ⟨hd,.inl ⟨lA e8,?_⟩⟩ hi ho hk;unfold oC;simp only[hc];rw[if_pos hw];exact⟨c,x,bh,h1,h2,rfl⟩
 .exact Px hg [] db hv ex i o ho _ _ h w μ a hi hk
theorem abQ (ap db hv:List Nat) (ex:List (Nat×AV)):yi (Gf P T Mv G N ap db hv ex ops) (Dt ap db hv ex ops) ops:=fun i j oi oj ik fD hc σ bh iy h1 h2=>by
 simp only[Dt,abi,ahY]at hc;obtain⟨⟨ai,aj⟩,hc⟩:=hc
 rcases h1 with⟨bi,_⟩ | ⟨_,h1⟩
 .rw[ai]at bi;cases bi
 rcases h2 with⟨bj,_⟩ | ⟨_,h2⟩
 .rw[aj]at bj;cases bj
 obtain⟨j1,f1,f2⟩:=abz [] db hv ex i j oi oj ik fD hc σ bh iy h1 h2;exact⟨j1,.inr ⟨aj,f1⟩,.inr ⟨ai,f2⟩⟩
def CS (P:Program) (T:Ty) (Mv:Nat->Prop) (G:aC) (N:Fr) (ap db hv:List Nat) (ex:List (Nat×AV)) (ops:Array Oper) (i:Nat) (o:Oper) (σ:St) (K:St->Prop):Prop:=
 if ap.contains i=true then gP N o/\o.guard=none/\ey o.op=none/\gD o.op=true/\match wr T G Mv σ o with
  | some (c,x,bh)=>c/\K ⟨aR bh.env o.dst x,bh.H⟩
  | none=>False
 else FP P T Mv G N [] db hv ex ops i o σ K
def uz (P:Program) (T:Ty) (Mv:Nat->Prop) (G:aC) (N:Fr) (ap db hv:List Nat) (ex:List (Nat×AV)) (ops:Array Oper) (K:St->Prop):List (Nat×Oper)->St->Prop
 | [],σ=>K σ
 | (i,o) :: rest,σ=>CS P T Mv G N ap db hv ex ops i o σ (uz P T Mv G N ap db hv ex ops K rest)
theorem ad9 {ap db hv:List Nat} {ex:List (Nat×AV)} {K:St->Prop}:∀ (l:List Nat) (σ:St),(∀ i∈l,i < ops.size)->uz P T Mv G N ap db hv ex ops K (cU ops l) σ->∃ cJ,K cJ/\iJ (Gf P T Mv G N ap db hv ex ops) ops l σ cJ:=by
 intro l
 induction l with
 | nil=>intro σ _ h;exact⟨σ,h,rfl⟩
 | cons i l ih=>
  intro σ hl h;have hi:=hl i ak
  have ho:ops[i]? = some ops[i]:=by simp[hi]
  have aS:cU ops (i :: l)=(i,ops[i]) :: cU ops l:=by simp[cU,hi]
  rw[aS]at h;have h:CS P T Mv G N ap db hv ex ops i ops[i] σ (uz P T Mv G N ap db hv ex ops K (cU ops l)):=h;unfold CS at h;split at h
  .rename_i ha;obtain⟨hd,e8,hc,hw,h⟩:=h;split at h
   .rename_i c x bh h1;obtain⟨cG,h⟩:=h;obtain⟨cJ,hk,hr⟩:=ih _ (fun j hj=>hl j (by simp[hj])) h;exact⟨cJ,hk,_,ho,_,.inl ⟨ha,hd,e8,hc,hw,c,x,bh,h1,cG,rfl⟩,hr⟩
   .exact h.elim
  .rename_i ha
   have YP:cU ops [i]=[(i,ops[i])]:=by simp[cU,hi]
   have hm:CW P T Mv G N [] db hv ex ops (uz P T Mv G N ap db hv ex ops K (cU ops l)) (cU ops [i]) σ:=by rw[YP];exact h
   obtain⟨bh,bC,o',sc,afj,hs,tW⟩:=aee [i] σ (by simpa using hi) (fun r hr=>by cases hr) hm;have tW:afj=bh:=tW;subst tW;obtain⟨cJ,hk,hr⟩:=ih _ (fun j hj=>hl j (by simp[hj])) bC;exact⟨cJ,hk,o',sc,_,.inr ⟨by simpa using ha,hs⟩,hr⟩
theorem SG (hg:Good P T) (hm:P.follows .mixedOrders=true) (ap db hv:List Nat) (ex:List (Nat×AV)) (ord:List Nat) {id:Nat} (cz:qP (Dt ap db hv ex ops) ord ops=true) {Q:Exit->St->Prop} (h:uz P T Mv G N ap db hv ex ops (fun aJ=>Q .normal aJ) (cU ops ord) σ):AW P Mv X G N (.region id ops true) Q σ:=
 ye hm (abP hg ap db hv ex) (abQ ap db hv ex) ord cz fun aG=>ad9 ord σ aG h
theorem Lm (hg:Good P T) (hm:P.follows .mixedOrders=true) (ap db hv:List Nat) (ex:List (Nat×AV)) (ord:List Nat) {id:Nat} (cz:qP (Dt ap db hv ex ops) ord ops=true) {Q:Exit->St->Prop}
  (h:∀ K:St->Prop,(∀ τ:St,Q .normal τ->K τ)->uz P T Mv G N ap db hv ex ops K (cU ops ord) σ):AW P Mv X G N (.region id ops true) Q σ:=SG hg hm ap db hv ex ord cz (h _ fun _ h=>h)
theorem mO {ap db hv:List Nat} {ex:List (Nat×AV)} {K:St->Prop} {i:Nat} {l:List Nat} {o:Oper} (ho:ops[i]? = some o) (h:∀ K':St->Prop,(∀ τ,uz P T Mv G N ap db hv ex ops K (cU ops l) τ->K' τ)->CS P T Mv G N ap db hv ex ops i o σ K'):uz P T Mv G N ap db hv ex ops K (cU ops (i :: l)) σ:=by
 have:cU ops (i :: l)=(i,o) :: cU ops l:=by simp[cU,ho]
 rw[this];exact h _ fun _ h=>h
theorem RT {ap db hv:List Nat} {ex:List (Nat×AV)} {K:St->Prop} (h:K σ):uz P T Mv G N ap db hv ex ops K (cU ops []) σ:=h
end
attribute [simp] CS
