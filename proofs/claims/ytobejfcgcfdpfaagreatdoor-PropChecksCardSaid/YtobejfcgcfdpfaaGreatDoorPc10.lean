/- Parts. -/
import Derived.Test.YtobejfcgcfdpfaaGreatDoorPc9
import Derived.Scope
set_option linter.unusedSectionVars false
set_option linter.unusedSimpArgs false
set_option linter.unusedVariables false
namespace Go.Av
def Vl (Q:Exit->St->Prop):Exit->St->Prop
 | .goto _,_=>False
 | e,σ=>Q e σ
section
variable {P:Program} {Mv X:Nat->Prop} {G:aB} {N:Fr} {σ:St}
theorem Qa {n:Nat} {ds:List Deferred} {c:Code} {Q:Exit->St->Prop} (h:AW P Mv X G ⟨n,ds,none⟩ c (Vl Q) σ):AW P Mv X G ⟨n,ds,none⟩ (.scope c) Q σ:=fun w μ a hi=>
 (wpIn_wide (n:=0)).2 <| wp_scope_straight (wp_mono ((wpIn_wide (n:=0)).1 (h w μ a hi)) fun e a' w' ⟨aI,aH,q,i,ev⟩=>by
  cases e with
  | goto l=>exact q.elim
  | _=>exact⟨aI,aH,q,i,ev⟩)
end
attribute [simp] Vl
end Go.Av
namespace Go.Av
section
variable {P:Program} {T:Ty} {Mv X:Nat->Prop} {G:aB} {N:Fr} {w:World} {μ:Mu} {a:Act} {σ:St}
def rj (mvd:List Nat) (e:Env):Prop:=∀ r∈mvd,eJ r e=e
def lv (mvd:List Nat) (x:AV):Prop:=∀ r∈mvd,x.kill r=x
theorem rj.put {mvd:List Nat} {e:Env} (h:rj mvd e) {x:AV} (hx:lv mvd x) (d:Option Tmp):rj mvd (aN e d x):=fun r hr=>by rw[Io,h r hr,hx r hr]
theorem lv.d (mvd:List Nat) (y:D):lv mvd (.d y):=fun _ _=>rfl
theorem RV.off {w':World} {aI:Mu} {mvd:List Nat} (bd:Ev (fun r=>r∈mvd) w μ w' aI):∀ {v:Value} {x:AV},RV w X μ v x->lv mvd x->RV w' X aI v x:=by
 intro v x hr;have ne:∀ {q:Nat},(∀ r∈mvd,¬ q=r)->∀ m,μ q=some m->aI q=some m:=fun h m hm=>bd.kept _ m hm fun oZ=>h _ oZ rfl
 have sub:∀ {l:List AV},(∀ r∈mvd,AV.kill.go r l=l)->∀ (j:Nat) (c:AV),l[j]? = some c->lv mvd c:=fun {l} h j c hc r hr=>by
  have:=h r hr;rw[AV.go_eq]at this;have h2:=congrArg (fun l:List AV=>l[j]?) this;simp only[amm,hc,amI,IT]at h2;exact h2
 induction hr with
 | d h'=>intro _;exact .d (h'.ev bd)
 | own hm h'=>
  intro ho;refine .own (ne (fun r hr e=>?_) _ hm) h';have:=ho r hr;simp[AV.kill,e]at this
 | ref hm hb=>
  intro ho;refine .ref (ne (fun r hr e=>?_) _ hm) hb;have:=ho r hr;simp[AV.kill,e]at this
 | agg hn _ ih=>
  intro ho;exact .agg hn fun j u c hu hc=>ih j u c hu hc (sub (fun r hr=>by have:=ho r hr;simpa[AV.kill]using this) j c hc)
 | bz hn _ ih=>
  intro ho;exact .bz hn fun j u c hu hc=>ih j u c hu hc (sub (fun r hr=>by have:=ho r hr;simpa[AV.kill]using this) j c hc)
 | cC _ ih=>intro ho;exact .cC (ih fun r hr=>by have:=ho r hr;simpa[AV.kill]using this)
 | bm _ ih=>intro ho;exact .bm (ih fun r hr=>by have:=ho r hr;simpa[AV.kill]using this)
 | fn hn _ ih=>
  intro ho;exact .fn hn fun j u c hu hc=>ih j u c hu hc (sub (fun r hr=>by have:=ho r hr;simpa[AV.kill]using this) j c hc)
 | mp hm hb=>
  intro ho;refine .mp (ne (fun r hr e=>?_) _ hm) hb;have:=ho r hr;simp[AV.kill,e]at this
 | dead u=>intro _;exact .dead u
def HC (P:Program) (G:aB) (mvd:List Nat) (g:FuncId) (xs:List AV) (H:Heap) (y:AV) (H2:Heap):Prop:=∀ (Mv X:Nat->Prop) (N:Fr) (e:Env),(∀ r∈mvd,Mv r)->rj mvd e->np P Mv X G N g xs ⟨e,H⟩ fun x aH=>x=y/\aH=⟨e,H2⟩
theorem HC.of {mvd:List Nat} {g:FuncId} {xs:List AV} {H H2:Heap} {y:AV} (h:∀ (X:Nat->Prop) (N:Fr) (e:Env),np P (fun r=>r∈mvd) X G N g xs ⟨e,H⟩ fun x aH=>x=y/\aH.H=H2):HC P G mvd g xs H y H2:=fun Mv X N e gp iH=>by
 refine⟨(h X N e).1,fun w μ a vs hi hn hv=>((h X N e).2 w μ a vs hi hn hv).mono fun e' w' ⟨v,x,aH,aI,he,⟨EM,hH⟩,aR,hr,bd⟩=>?_⟩;subst hH;refine⟨v,x,⟨e,aH.H⟩,aI,he,⟨EM,rfl⟩,⟨aR.bx,⟨hi.env.defers,hi.env.size,fun i z hz=>?_⟩,aR.jA⟩,hr,bd.weaken fun r _ _ h=>gp r h⟩;obtain⟨u,hu,EA⟩:=hi.env.slot i z hz;refine⟨u,hu,RV.off bd EA fun r hr=>?_⟩;have h1:=congrFun (iH r hr) i;replace hz:e i=some z:=hz;simpa[eJ,hz]using h1
theorem HC.mc {mvd:List Nat} {fx:List Nat} {g:FuncId} {pb xs:List AV} {H:Heap} {cq gK:List (Nat×Row)} {y:AV} (hc:MC P G fx g xs (aw cq) y (aw gK)) (hx:pb.map (AV.tr (fY (cq.map (·.1))) (fX (cq.map (·.1))))=xs)
  (hH:∀ p∈cq,(H p.1).map (Row.tr (fY (cq.map (·.1))) (fX (cq.map (·.1))))=aw cq p.1) (hd:∀ p∈gK,(cq.map (·.1)).contains p.1=true\/H p.1=none) (hm:∀ r∈cq.map (·.1),fx.contains r=false->r∈mvd) :
  HC P G mvd g pb H y (oX (aw gK) (fi (gB (cq.map (·.1))) (oG (cq.map (·.1)) fx) (oF (cq.map (·.1)) fx) H)):=.of fun X N e=>by
 refine np.UL hc hx (funext (Jo hH)).symm (fun q hq=>?_) (fun r hr=>hm r (am1.1 hr)) ⟨rfl,rfl⟩
 have oZ:∀ l:List (Nat×Row),(aw l q).isSome=true->∃ p∈l,p.1=q:=by
  intro l
  induction l with
  | nil=>intro h;simp[aw]at h
  | cons p l ih=>
   intro h;simp only[aw,List.lookup]at h
   cases qM:(q == p.1) with
   | true=>exact⟨p,ak,by simpa using (beq_iff_eq.1 qM).symm⟩
   | false=>
    rw[qM]at h;obtain⟨p',h1,h2⟩:=ih h;exact⟨p',by simp[h1],h2⟩
 obtain⟨p,hp,rfl⟩:=oZ gK hq;exact hd p hp
variable {ops:Array Oper} {Step:Nat->Oper->St->St->Prop} {cp:Nat->Nat->Oper->Oper->Bool}
def kz (T:Ty) (ops:Array Oper) (H H2:Heap) (p:Nat×AV):Prop:=match ops[p.1]? with
 | some o=>match o.op with
  | .load t _=>pH T H t p.2=pH T H2 t p.2
  | _=>False
 | none=>False
def qj (G:aB) (ex:List (Nat×AV)) (i:Nat) (o:Oper) (e:Env):Prop:=match ex.lookup i with
 | some pv=>match o.op with
  | .load _ x=>bJ G e x=some pv
  | _=>False
 | none=>True
def Yx (P:Program) (T:Ty) (Mv:Nat->Prop) (G:aB) (mvd:List Nat) (ops:Array Oper) (ex:List (Nat×AV)) (o:Oper) (σ aH:St):Prop:=∃ c g xs y H2,eD o.op=some c/\kV G σ.env c=some (g,xs)/\(∀ r∈mvd,Mv r)/\HC P G mvd g xs σ.H y H2/\(∀ p∈ex,kz T ops σ.H H2 p)/\lv mvd y/\aH=⟨aN σ.env o.dst y,H2⟩
def ri (P:Program) (T:Ty) (Mv:Nat->Prop) (G:aB) (N:Fr) (mvd db hv:List Nat) (ex:List (Nat×AV)) (ops:Array Oper) (i:Nat) (o:Oper) (σ aH:St):Prop:=
 fb N o/\o.guard=none/\rj mvd σ.env/\((db.contains i=true/\∃ c y,pW T G σ.env o=some (c,y)/\c/\aH=⟨aN σ.env o.dst (.d y),σ.H⟩)\/
  (db.contains i=false/\hv.contains i=true/\Yx P T Mv G mvd ops ex o σ aH)\/
  (db.contains i=false/\hv.contains i=false/\kindOf o.op≠9/\qj G ex i o σ.env/\∃ x H',Ex P T Mv G o σ.env σ.H x H'/\lv mvd x/\aH=⟨aN σ.env o.dst x,H'⟩))
theorem IH (hg:Good P T) (mvd db hv:List Nat) (ex:List (Nat×AV)):Sound P X G N Mv (ri P T Mv G N mvd db hv ex ops) ops:=fun i o ho σ aH h w μ a hi Q K hk=>by
 obtain⟨hd,dJ,j8,h⟩:=h
 have fU:∀ d,o.dst=some d->d < N.n:=fun d e=>by unfold fb at hd;rw[e]at hd;exact hd
 rcases h with⟨_,c,y,h1,h2,rfl⟩ | ⟨_,_,c,g,xs,y,H2,hc,ht,gp,fQ,_,_,rfl⟩ | ⟨_,_,h9,_,x,H',h1,_,rfl⟩
 .unfold wpOpIn;simp only[ho];rw[u7 hi (lM dJ),if_pos rfl];refine yG (fun c e=>by simp[pW,e]at h1) ?_;obtain⟨v,w',hr,aR,iu,bd⟩:=QZ (Mv:=Mv) hg hi h1 h2;unfold Oper.wp;rw[hr];exact hk _ μ _ (aR.put iu fU) bd
 .unfold wpOpIn;simp only[ho];rw[u7 hi (lM dJ),if_pos rfl];refine (Du (Mv:=Mv) (K:=fun ba=>ba=⟨aN σ.env o.dst y,H2⟩) hg hi fU ?_ fun w' aI a' ba e aR bd=>hk w' aI a' (e ▸ aR) bd);unfold nR;simp only[hc,ht]
  exact (fQ Mv X N σ.env gp j8).mono fun x aH ⟨e1,e2⟩=>by rw[e1,e2]
 .exact AH hg ⟨hd,.inl ⟨lM dJ,h1.to⟩⟩ hi ho hk
def Dj (db hv:List Nat) (ex:List (Nat×AV)) (ops:Array Oper) (i j:Nat) (oi oj:Oper):Bool:=oi.apart ops oj && (db.contains i || db.contains j ||
 (if hv.contains i then !hv.contains j && (kindOf oj.op == 0 || (ex.lookup j).isSome) else if hv.contains j then kindOf oi.op == 0 || (ex.lookup i).isSome else wI (kindOf oi.op) (kindOf oj.op)))
theorem IC {ex:List (Nat×AV)} {i:Nat} {pv:AV} (h:ex.lookup i=some pv):(i,pv)∈ex:=by
 induction ex with
 | nil=>cases h
 | cons p ex ih=>
  rw[List.lookup_cons]at h;split at h
  .rename_i he;obtain rfl:=AI h
   have:i=p.1:=by simpa using he
   rw[this];simp
  .exact List.mem_cons_of_mem _ (ih h)
theorem Ci {i:Nat} {o:Oper} (ho:ops[i]? = some o) {ex:List (Nat×AV)} {pv:AV} (hl:ex.lookup i=some pv) {e:Env} {H H2 H':Heap} {x:AV} (dz:qj G ex i o e) (hs:kz T ops H H2 (i,pv)) (h:Ex P T Mv G o e H x H'):H'=H/\Ex P T Mv G o e H2 x H2:=by
 unfold qj at dz
 rw[hl]at dz
 unfold kz at hs;simp only[ho]at hs;obtain⟨dst,op,type,pos,after,guard⟩:=o;dsimp only at dz hs
 cases op<;>dsimp only at dz hs<;>try exact dz.elim
 unfold Ex at h ⊢;simp only[eD,ic,rd,amn,if_false,dz,an3]at h ⊢;obtain⟨c,h1,h2,rfl⟩:=h;exact⟨rfl,c,by rw[<- hs];exact h1,h2,trivial⟩
theorem Oi (mvd db hv:List Nat) (ex:List (Nat×AV)):wZ (ri P T Mv G N mvd db hv ex ops) (Dj db hv ex ops) ops:=fun i j oi oj ir fM hc σ ba iB h1 h2=>by
 simp only[Dj,OF]at hc;obtain⟨eO,jO⟩:=hc;obtain⟨di,gi,oE,h1⟩:=h1;obtain⟨dj,gj,_,h2⟩:=h2;have ft:∀ v,gU oj.op (aN σ.env oi.dst v) σ.env:=fun v t ht=>(jz eO (e:=σ.env) (v:=v)).1 t (lk ht);have fZ:∀ v,gU oi.op σ.env (aN σ.env oj.dst v):=fun v t ht=>((jz eO (e:=σ.env) (v:=v)).2.1 t (lk ht)).symm;have bq:=(jz eO (e:=σ.env) (v:=dI)).2.2;have tg:∀ {o:Oper} {c:Call} {e e':Env},eD o.op=some c->gU o.op e e'->kV G e c=kV G e' c:=fun {o c e e'} hc ha=>AM fun t ht=>ha t (by rw[(wF hc).1];exact ht)
 have rR:∀ {k:Nat} {o:Oper} {e e':Env},gU o.op e e'->qj G ex k o e->qj G ex k o e':=fun {k o e e'} ha h=>by
  unfold qj at h ⊢;split
  .rename_i pv hl;simp only[hl]at h;split
   .rename_i t x j9;simp only[j9]at h;rw[<- fE (x:=x) fun t' rI=>ha t' (by rw[j9,rI];simp[Op.operands])];exact h
   .rename_i ji;split at h
    .rename_i t x j9;exact absurd j9 (ji t x)
    .exact h
  .trivial
 rcases h1 with⟨bi,c,y,e1,c1,rfl⟩ | ⟨bi,vi,c,g,xs,y,H2,jB,ti,gp,cH,kN,oy,rfl⟩ | ⟨bi,vi,k1,l1,x,H',e1,ox,rfl⟩
 .-- data first
  rcases h2 with⟨bj,c',z,e2,c2,rfl⟩ | ⟨bj,vj,c',g,xs,z,H2,qE,tj,gp,cH,kN,oz,rfl⟩ | ⟨bj,vj,k2,l2,z,H2,e2,oz,rfl⟩
  .rw[pn (ft _)]at e2;refine⟨⟨aN σ.env oj.dst (.d z),σ.H⟩,⟨dj,gj,oE,.inl ⟨bj,c',z,e2,c2,rfl⟩⟩,di,gi,oE.put (lv.d _ _) _,.inl ⟨bi,c,y,?_,c1,?_⟩⟩
   .rw[<- pn (fZ _)];exact e1
   .rw[iL bq]
  .rw[tg qE (ft _)]at tj;refine⟨⟨aN σ.env oj.dst z,H2⟩,⟨dj,gj,oE,.inr (.inl ⟨bj,vj,c',g,xs,z,H2,qE,tj,gp,cH,kN,oz,rfl⟩)⟩,di,gi,oE.put oz _,.inl ⟨bi,c,y,?_,c1,?_⟩⟩
   .rw[<- pn (fZ _)];exact e1
   .rw[iL bq]
  .refine⟨⟨aN σ.env oj.dst z,H2⟩,⟨dj,gj,oE,.inr (.inr ⟨bj,vj,k2,rR (ft _) l2,z,H2,e2.congr k2 (ft _),oz,rfl⟩)⟩,di,gi,oE.put oz _,.inl ⟨bi,c,y,?_,c1,?_⟩⟩
   .rw[<- pn (fZ _)];exact e1
   .rw[iL bq]
 .-- a call first
  rcases h2 with⟨bj,c',z,e2,c2,rfl⟩ | ⟨bj,vj,_⟩ | ⟨bj,vj,k2,l2,z,H3,e2,oz,rfl⟩
  .rw[pn (ft _)]at e2;refine⟨⟨aN σ.env oj.dst (.d z),σ.H⟩,⟨dj,gj,oE,.inl ⟨bj,c',z,e2,c2,rfl⟩⟩,di,gi,oE.put (lv.d _ _) _,.inr (.inl ⟨bi,vi,c,g,xs,y,H2,jB,?_,gp,cH,kN,oy,?_⟩)⟩
   .rw[<- tg jB (fZ _)];exact ti
   .rw[iL bq]
  .rw[bi,bj,vi]at jO;simp[vj]at jO
   simp_all
  .rw[bi,bj]at jO;have xh:=e2.congr k2 (ft _);have Ch:=rR (ft _) l2
   have hq:H3=H2/\Ex P T Mv G oj σ.env σ.H z σ.H:=by
    have hp:kindOf oj.op=0\/(ex.lookup j).isSome=true:=by
     simp only[anz,vi,vj,if_true,anl,Bool.true_and]at jO;simpa using jO
    rcases hp with hp | hp
    .exact⟨xh.keeps aa,xh.free hp σ.H⟩
    .obtain⟨pv,oo⟩:=am9.1 hp;have hs:=kN _ (IC oo);refine Ci fM oo Ch ?_ xh;unfold kz at hs ⊢;simp only[fM]at hs ⊢;split<;>simp_all
   obtain⟨rfl,e3⟩:=hq;refine⟨⟨aN σ.env oj.dst z,σ.H⟩,⟨dj,gj,oE,.inr (.inr ⟨bj,vj,k2,Ch,z,σ.H,e3,oz,rfl⟩)⟩,di,gi,oE.put oz _,.inr (.inl ⟨bi,vi,c,g,xs,y,H3,jB,?_,gp,cH,kN,oy,?_⟩)⟩
   .rw[<- tg jB (fZ _)];exact ti
   .rw[iL bq]
 .rcases h2 with⟨bj,c',z,e2,c2,rfl⟩ | ⟨bj,vj,c',g,xs,z,H2,qE,tj,gp,cH,kN,oz,rfl⟩ | ⟨bj,vj,k2,l2,z,H2,e2,oz,rfl⟩
  .rw[pn (ft _)]at e2;refine⟨⟨aN σ.env oj.dst (.d z),σ.H⟩,⟨dj,gj,oE,.inl ⟨bj,c',z,e2,c2,rfl⟩⟩,di,gi,oE.put (lv.d _ _) _,.inr (.inr ⟨bi,vi,k1,rR (fZ _) l1,x,H',e1.congr k1 (fZ _),ox,?_⟩)⟩;rw[iL bq]
  .rw[tg qE (ft _)]at tj;rw[bi,bj]at jO
   have hp:kindOf oi.op=0\/(ex.lookup i).isSome=true:=by
    simp only[anz,vi,vj,if_true,amn,if_false]at jO;simpa using jO
   have Bg:=e1.congr k1 (fZ z);have xZ:=rR (fZ z) l1
   rcases hp with hp | hp
   .obtain rfl:=e1.keeps aa;refine⟨⟨aN σ.env oj.dst z,H2⟩,⟨dj,gj,oE,.inr (.inl ⟨bj,vj,c',g,xs,z,H2,qE,tj,gp,cH,kN,oz,rfl⟩)⟩,di,gi,oE.put oz _,.inr (.inr ⟨bi,vi,k1,xZ,x,H2,Bg.free hp H2,ox,?_⟩)⟩;rw[iL bq]
   .obtain⟨pv,oo⟩:=am9.1 hp;have hs:=kN _ (IC oo);have hH:H'=σ.H:=(Ci (H2:=σ.H) ir oo l1 (by unfold kz;simp only[ir];unfold kz at hs;simp only[ir]at hs;split<;>simp_all) e1).1;subst hH;obtain⟨_,e3⟩:=Ci ir oo xZ hs Bg;refine⟨⟨aN σ.env oj.dst z,H2⟩,⟨dj,gj,oE,.inr (.inl ⟨bj,vj,c',g,xs,z,H2,qE,tj,gp,cH,kN,oz,rfl⟩)⟩,di,gi,oE.put oz _,.inr (.inr ⟨bi,vi,k1,xZ,x,H2,e3,ox,?_⟩)⟩;rw[iL bq]
  .rw[bi,bj]at jO
   have cU:lx ops oi oj=true:=by simp only[lx,OF];simp only[anz,vi,vj,amn,if_false]at jO;exact⟨eO,jO⟩
   obtain⟨H3,f1,f2⟩:=A7 (N:=N) cU ⟨di,.inl ⟨lM gi,e1⟩⟩ ⟨dj,.inl ⟨lM gj,e2⟩⟩ k1 k2
   have un:∀ {o:Oper} {e:Env} {H H':Heap} {x:AV},o.guard=none->Sx P T Mv G N ops o e H x H'->Ex P T Mv G o e H x H':=fun dJ h=>by
    rcases h.2 with⟨_,h⟩ | ⟨hw,_⟩
    .exact h
    .rw[lM dJ]at hw;cases hw
   refine⟨⟨aN σ.env oj.dst z,H3⟩,⟨dj,gj,oE,.inr (.inr ⟨bj,vj,k2,rR (ft _) l2,z,H3,un gj f1,oz,rfl⟩)⟩,di,gi,oE.put oz _,.inr (.inr ⟨bi,vi,k1,rR (fZ _) l1,x,H2,un gi f2,ox,?_⟩)⟩;rw[iL bq]
def vO (P:Program) (T:Ty) (Mv:Nat->Prop) (G:aB) (mvd:List Nat) (ops:Array Oper) (ex:List (Nat×AV)) (g:FuncId) (xs:List AV) (σ:St) (dst:Option Tmp) (K:St->Prop):Prop:=∃ y H2,(∀ r∈mvd,Mv r)/\HC P G mvd g xs σ.H y H2/\(∀ p∈ex,kz T ops σ.H H2 p)/\lv mvd y/\K ⟨aN σ.env dst y,H2⟩
theorem vO.mc {mvd:List Nat} {ex:List (Nat×AV)} {dst:Option Tmp} {K:St->Prop} {fx:List Nat} {g:FuncId} {pb xs:List AV} {cq gK:List (Nat×Row)} {y:AV} (hc:MC P G fx g xs (aw cq) y (aw gK)) (hx:pb.map (AV.tr (fY (cq.map (·.1))) (fX (cq.map (·.1))))=xs)
  (hH:∀ p∈cq,(σ.H p.1).map (Row.tr (fY (cq.map (·.1))) (fX (cq.map (·.1))))=aw cq p.1) (hd:∀ p∈gK,(cq.map (·.1)).contains p.1=true\/σ.H p.1=none) (hm:∀ r∈cq.map (·.1),fx.contains r=false->r∈mvd) (gp:∀ r∈mvd,Mv r) (ho:∀ r∈mvd,y.kill r=y)
  (hl:∀ p∈ex,kz T ops σ.H (oX (aw gK) (fi (gB (cq.map (·.1))) (oG (cq.map (·.1)) fx) (oF (cq.map (·.1)) fx) σ.H)) p)
  (h:K ⟨aN σ.env dst y,oX (aw gK) (fi (gB (cq.map (·.1))) (oG (cq.map (·.1)) fx) (oF (cq.map (·.1)) fx) σ.H)⟩):vO P T Mv G mvd ops ex g pb σ dst K:=⟨y,_,gp,.mc hc hx hH hd hm,hl,ho,h⟩
def Fq (T:Ty) (G:aB) (Mv:Nat->Prop) (mvd:List Nat) (o:Oper) (σ:St) (next:St->Prop):Prop:=
 if ic o.op then match wr T G Mv σ o with
  | some (c,x,aH)=>c/\(∀ r∈mvd,x.kill r=x)/\next ⟨aN aH.env o.dst x,aH.H⟩
  | none=>False
 else match rd T G σ o.op with
  | some (c,x)=>c/\(∀ r∈mvd,x.kill r=x)/\next ⟨aN σ.env o.dst x,σ.H⟩
  | none=>False
def CM (P:Program) (T:Ty) (Mv:Nat->Prop) (G:aB) (N:Fr) (mvd db hv:List Nat) (ex:List (Nat×AV)) (ops:Array Oper) (i:Nat) (o:Oper) (σ:St) (K:St->Prop):Prop:=fb N o/\o.guard=none/\
 if db.contains i=true then (match pW T G σ.env o with
  | some (c,y)=>c/\K ⟨aN σ.env o.dst (.d y),σ.H⟩
  | none=>False)
 else if hv.contains i=true then (match eD o.op with
  | some c=>match kV G σ.env c with
   | some (g,xs)=>vO P T Mv G mvd ops ex g xs σ o.dst K
   | none=>False
  | none=>False)
 else kindOf o.op≠9/\qj G ex i o σ.env/\match eD o.op with
  | some c=>pj P G c σ.env o.dst σ.H [] [] K
  | none=>Fq T G Mv mvd o σ K
def AL (P:Program) (T:Ty) (Mv:Nat->Prop) (G:aB) (N:Fr) (mvd db hv:List Nat) (ex:List (Nat×AV)) (ops:Array Oper) (K:St->Prop):List (Nat×Oper)->St->Prop
 | [],σ=>K σ
 | (i,o) :: rest,σ=>CM P T Mv G N mvd db hv ex ops i o σ (AL P T Mv G N mvd db hv ex ops K rest)
theorem Pt {mvd db hv:List Nat} {ex:List (Nat×AV)} {K:St->Prop}:∀ (l:List Nat) (σ:St),(∀ i∈l,i < ops.size)->rj mvd σ.env->AL P T Mv G N mvd db hv ex ops K (b8 ops l) σ->∃ cF,K cF/\ja (ri P T Mv G N mvd db hv ex ops) ops l σ cF:=by
 intro l
 induction l with
 | nil=>intro σ _ _ h;exact⟨σ,h,rfl⟩
 | cons i l ih=>
  intro σ hl j8 h;have hi:=hl i ak
  have ho:ops[i]? = some ops[i]:=by simp[hi]
  simp only[b8,ho]at h;generalize ops[i]=o at ho h;simp only[AL,CM]at h;obtain⟨hd,dJ,h⟩:=h
  have fin:∀ ba,ri P T Mv G N mvd db hv ex ops i o σ ba->rj mvd ba.env->AL P T Mv G N mvd db hv ex ops K (b8 ops l) ba->∃ cF,K cF/\ja (ri P T Mv G N mvd db hv ex ops) ops (i :: l) σ cF:=fun ba hs hE h1=>by
   obtain⟨cF,hk,hr⟩:=ih ba (fun j hj=>hl j (by simp[hj])) hE h1;exact⟨cF,hk,o,ho,ba,hs,hr⟩
  split at h
  .rename_i hb;split at h
   .rename_i c y hw;obtain⟨hc,h⟩:=h;exact fin _ ⟨hd,dJ,j8,.inl ⟨hb,c,y,hw,hc,rfl⟩⟩ (j8.put (lv.d _ _) _) h
   .exact h.elim
  .rename_i hb
   have hb:db.contains i=false:=by simpa using hb
   split at h
   .rename_i jG;split at h
    .rename_i c hc;split at h
     .rename_i g xs ht;obtain⟨y,H2,h0,h1,h2,h3,h⟩:=h;exact fin _ ⟨hd,dJ,j8,.inr (.inl ⟨hb,jG,c,g,xs,y,H2,hc,ht,h0,h1,h2,h3,rfl⟩)⟩ (j8.put h3 _) h
     .exact h.elim
    .exact h.elim
   .rename_i jG
    have jG:hv.contains i=false:=by simpa using jG
    obtain⟨hk,p5,h⟩:=h;split at h
    .rename_i c hc;obtain⟨y,g,ds,ht,hp,iH,h⟩:=h;refine fin _ ⟨hd,dJ,j8,.inr (.inr ⟨hb,jG,hk,p5,.d y,σ.H,?_,lv.d _ _,rfl⟩)⟩ (j8.put (lv.d _ _) _) h;unfold Ex;simp only[hc];exact⟨y,⟨g,_,ht,.inl ⟨ds,rfl,hp⟩⟩,rfl,trivial⟩
    .rename_i hc;unfold Fq at h;split at h
     .rename_i hw;split at h
      .rename_i c x ba h1;obtain⟨cU,iH,h⟩:=h;have he:=CT hk h1;obtain⟨e,H⟩:=σ;obtain⟨e1,H1⟩:=ba;dsimp only at he;subst he;refine fin _ ⟨hd,dJ,j8,.inr (.inr ⟨hb,jG,hk,p5,x,H1,?_,iH,rfl⟩)⟩ (j8.put iH _) h;unfold Ex;simp only[hc];rw[if_pos hw];exact⟨c,h1,cU⟩
      .exact h.elim
     .rename_i hw;split at h
      .rename_i c x h1;obtain⟨cU,iH,h⟩:=h;refine fin _ ⟨hd,dJ,j8,.inr (.inr ⟨hb,jG,hk,p5,x,σ.H,?_,iH,rfl⟩)⟩ (j8.put iH _) h;unfold Ex;simp only[hc];rw[if_neg hw];exact⟨c,h1,cU,trivial⟩
      .exact h.elim
end
attribute [simp] CM qj Fq
