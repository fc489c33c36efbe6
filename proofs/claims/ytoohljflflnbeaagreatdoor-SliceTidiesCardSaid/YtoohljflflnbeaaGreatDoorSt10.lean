/- Parts. -/
import Derived.Test.YtoohljflflnbeaaGreatDoorSt9
import Derived.Scope
set_option linter.unusedSectionVars false
set_option linter.unusedSimpArgs false
set_option linter.unusedVariables false
namespace Go.Av
def Lw (Q:Exit->St->Prop):Exit->St->Prop
 | .goto _,_=>False
 | e,σ=>Q e σ
section
variable {P:Program} {Mv X:Nat->Prop} {G:aF} {N:Fr} {σ:St}
theorem HK {n:Nat} {ds:List Deferred} {c:Code} {Q:Exit->St->Prop} (h:AW P Mv X G ⟨n,ds,none⟩ c (Lw Q) σ):AW P Mv X G ⟨n,ds,none⟩ (.scope c) Q σ:=fun w μ a hi=>
 (wpIn_wide (n:=0)).2 <| wp_scope_straight (wp_mono ((wpIn_wide (n:=0)).1 (h w μ a hi)) fun e a' w' ⟨aK,aP,q,i,ev⟩=>by
  cases e with
  | goto l=>exact q.elim
  | _=>exact⟨aK,aP,q,i,ev⟩)
end
attribute [simp] Lw
end Go.Av
namespace Go.Av
section
variable {P:Program} {T:Ty} {Mv X:Nat->Prop} {G:aF} {N:Fr} {w:World} {μ:Mu} {a:Act} {σ:St}
def iS (cg:List Nat) (e:Env):Prop:=∀ r∈cg,dN r e=e
def mu (cg:List Nat) (x:AV):Prop:=∀ r∈cg,x.kill r=x
theorem iS.put {cg:List Nat} {e:Env} (h:iS cg e) {x:AV} (hx:mu cg x) (d:Option Tmp):iS cg (aR e d x):=fun r hr=>by rw[BP,h r hr,hx r hr]
theorem mu.d (cg:List Nat) (y:D):mu cg (.d y):=fun _ _=>rfl
theorem RV.off {w':World} {aK:Mu} {cg:List Nat} (br:Ev (fun r=>r∈cg) w μ w' aK):∀ {v:Value} {x:AV},RV w X μ v x->mu cg x->RV w' X aK v x:=by
 intro v x hr;have ne:∀ {q:Nat},(∀ r∈cg,¬ q=r)->∀ m,μ q=some m->aK q=some m:=fun h m hm=>br.kept _ m hm fun o5=>h _ o5 rfl
 have sub:∀ {l:List AV},(∀ r∈cg,AV.kill.go r l=l)->∀ (j:Nat) (c:AV),l[j]? = some c->mu cg c:=fun {l} h j c hc r hr=>by
  have:=h r hr;rw[AV.go_eq]at this;have h2:=congrArg (fun l:List AV=>l[j]?) this;simp only[aa3,hc,abC,BY]at h2;exact h2
 induction hr with
 | d h'=>intro _;exact .d (h'.ev br)
 | own hm h'=>
  intro ho;refine .own (ne (fun r hr e=>?_) _ hm) h';have:=ho r hr;simp[AV.kill,e]at this
 | ref hm hb=>
  intro ho;refine .ref (ne (fun r hr e=>?_) _ hm) hb;have:=ho r hr;simp[AV.kill,e]at this
 | agg hn _ ih=>
  intro ho;exact .agg hn fun j u c hu hc=>ih j u c hu hc (sub (fun r hr=>by have:=ho r hr;simpa[AV.kill]using this) j c hc)
 | bI hn _ ih=>
  intro ho;exact .bI hn fun j u c hu hc=>ih j u c hu hc (sub (fun r hr=>by have:=ho r hr;simpa[AV.kill]using this) j c hc)
 | b6 _ ih=>intro ho;exact .b6 (ih fun r hr=>by have:=ho r hr;simpa[AV.kill]using this)
 | bm _ ih=>intro ho;exact .bm (ih fun r hr=>by have:=ho r hr;simpa[AV.kill]using this)
 | fn hn _ ih=>
  intro ho;exact .fn hn fun j u c hu hc=>ih j u c hu hc (sub (fun r hr=>by have:=ho r hr;simpa[AV.kill]using this) j c hc)
 | mp hm hb=>
  intro ho;refine .mp (ne (fun r hr e=>?_) _ hm) hb;have:=ho r hr;simp[AV.kill,e]at this
 | dead u=>intro _;exact .dead u
def HC (P:Program) (G:aF) (cg:List Nat) (g:FuncId) (xs:List AV) (H:Heap) (y:AV) (H2:Heap):Prop:=∀ (Mv X:Nat->Prop) (N:Fr) (e:Env),(∀ r∈cg,Mv r)->iS cg e->kD P Mv X G N g xs ⟨e,H⟩ fun x aP=>x=y/\aP=⟨e,H2⟩
theorem HC.of {cg:List Nat} {g:FuncId} {xs:List AV} {H H2:Heap} {y:AV} (h:∀ (X:Nat->Prop) (N:Fr) (e:Env),kD P (fun r=>r∈cg) X G N g xs ⟨e,H⟩ fun x aP=>x=y/\aP.H=H2):HC P G cg g xs H y H2:=fun Mv X N e jn iU=>by
 refine⟨(h X N e).1,fun w μ a vs hi hn hv=>((h X N e).2 w μ a vs hi hn hv).mono fun e' w' ⟨v,x,aP,aK,he,⟨FD,hH⟩,bn,hr,br⟩=>?_⟩;subst hH;refine⟨v,x,⟨e,aP.H⟩,aK,he,⟨FD,rfl⟩,⟨bn.bo,⟨hi.env.defers,hi.env.size,fun i z hz=>?_⟩,bn.iu⟩,hr,br.weaken fun r _ _ h=>jn r h⟩;obtain⟨u,hu,Fo⟩:=hi.env.slot i z hz;refine⟨u,hu,RV.off br Fo fun r hr=>?_⟩;have h1:=congrFun (iU r hr) i;replace hz:e i=some z:=hz;simpa[dN,hz]using h1
theorem HC.mc {cg:List Nat} {fx:List Nat} {g:FuncId} {p9 xs:List AV} {H:Heap} {dH ju:List (Nat×Row)} {y:AV} (hc:MC P G fx g xs (au dH) y (au ju)) (hx:p9.map (AV.tr (fb (dH.map (·.1))) (fa (dH.map (·.1))))=xs)
  (hH:∀ p∈dH,(H p.1).map (Row.tr (fb (dH.map (·.1))) (fa (dH.map (·.1))))=au dH p.1) (hd:∀ p∈ju,(dH.map (·.1)).contains p.1=true\/H p.1=none) (hm:∀ r∈dH.map (·.1),fx.contains r=false->r∈cg) :
  HC P G cg g p9 H y (kL (au ju) (fM (jc (dH.map (·.1))) (pf (dH.map (·.1)) fx) (pd (dH.map (·.1)) fx) H)):=.of fun X N e=>by
 refine kD.Lf hc hx (funext (Cu hH)).symm (fun q hq=>?_) (fun r hr=>hm r (ab1.1 hr)) ⟨rfl,rfl⟩
 have o5:∀ l:List (Nat×Row),(au l q).isSome=true->∃ p∈l,p.1=q:=by
  intro l
  induction l with
  | nil=>intro h;simp[au]at h
  | cons p l ih=>
   intro h;simp only[au,List.lookup]at h
   cases yN:(q == p.1) with
   | true=>exact⟨p,al,by simpa using (beq_iff_eq.1 yN).symm⟩
   | false=>
    rw[yN]at h;obtain⟨p',h1,h2⟩:=ih h;exact⟨p',by simp[h1],h2⟩
 obtain⟨p,hp,rfl⟩:=o5 ju hq;exact hd p hp
variable {ops:Array Oper} {Step:Nat->Oper->St->St->Prop} {cp:Nat->Nat->Oper->Oper->Bool}
def jg (T:Ty) (ops:Array Oper) (H H2:Heap) (p:Nat×AV):Prop:=match ops[p.1]? with
 | some o=>match o.op with
  | .load t _=>mW T H t p.2=mW T H2 t p.2
  | _=>False
 | none=>False
def r7 (G:aF) (ex:List (Nat×AV)) (i:Nat) (o:Oper) (e:Env):Prop:=match ex.lookup i with
 | some pv=>match o.op with
  | .load _ x=>bG G e x=some pv
  | _=>False
 | none=>True
def N3 (P:Program) (T:Ty) (Mv:Nat->Prop) (G:aF) (cg:List Nat) (ops:Array Oper) (ex:List (Nat×AV)) (o:Oper) (σ aP:St):Prop:=∃ c g xs y H2,eH o.op=some c/\lx G σ.env c=some (g,xs)/\(∀ r∈cg,Mv r)/\HC P G cg g xs σ.H y H2/\(∀ p∈ex,jg T ops σ.H H2 p)/\mu cg y/\aP=⟨aR σ.env o.dst y,H2⟩
def xn (P:Program) (T:Ty) (Mv:Nat->Prop) (G:aF) (N:Fr) (cg db hv:List Nat) (ex:List (Nat×AV)) (ops:Array Oper) (i:Nat) (o:Oper) (σ aP:St):Prop:=
 iy N o/\o.guard=none/\iS cg σ.env/\((db.contains i=true/\∃ c y,nu T G σ.env o=some (c,y)/\c/\aP=⟨aR σ.env o.dst (.d y),σ.H⟩)\/
  (db.contains i=false/\hv.contains i=true/\N3 P T Mv G cg ops ex o σ aP)\/
  (db.contains i=false/\hv.contains i=false/\kindOf o.op≠9/\r7 G ex i o σ.env/\∃ x H',Ex P T Mv G o σ.env σ.H x H'/\mu cg x/\aP=⟨aR σ.env o.dst x,H'⟩))
theorem UD (hg:Good P T) (cg db hv:List Nat) (ex:List (Nat×AV)):Sound P X G N Mv (xn P T Mv G N cg db hv ex ops) ops:=fun i o ho σ aP h w μ a hi Q K hk=>by
 obtain⟨hd,gg,lf,h⟩:=h
 have iw:∀ d,o.dst=some d->d < N.n:=fun d e=>by unfold iy at hd;rw[e]at hd;exact hd
 rcases h with⟨_,c,y,h1,h2,rfl⟩ | ⟨_,_,c,g,xs,y,H2,hc,ht,jn,eL,_,_,rfl⟩ | ⟨_,_,h9,_,x,H',h1,_,rfl⟩
 .unfold wpOpIn;simp only[ho];rw[vl hi (lY gg),if_pos rfl];refine CY (fun c e=>by simp[nu,e]at h1) ?_;obtain⟨v,w',hr,bn,gp,br⟩:=IF (Mv:=Mv) hg hi h1 h2;unfold Oper.wp;rw[hr];exact hk _ μ _ (bn.put gp iw) br
 .unfold wpOpIn;simp only[ho];rw[vl hi (lY gg),if_pos rfl];refine (xK (Mv:=Mv) (K:=fun bz=>bz=⟨aR σ.env o.dst y,H2⟩) hg hi iw ?_ fun w' aK a' bz e bn br=>hk w' aK a' (e ▸ bn) br);unfold lH;simp only[hc,ht]
  exact (eL Mv X N σ.env jn lf).mono fun x aP ⟨e1,e2⟩=>by rw[e1,e2]
 .exact zI hg ⟨hd,.inl ⟨lY gg,h1.to⟩⟩ hi ho hk
def xB (db hv:List Nat) (ex:List (Nat×AV)) (ops:Array Oper) (i j:Nat) (oi oj:Oper):Bool:=oi.apart ops oj && (db.contains i || db.contains j ||
 (if hv.contains i then !hv.contains j && (kindOf oj.op == 0 || (ex.lookup j).isSome) else if hv.contains j then kindOf oi.op == 0 || (ex.lookup i).isSome else s9 (kindOf oi.op) (kindOf oj.op)))
theorem Li {ex:List (Nat×AV)} {i:Nat} {pv:AV} (h:ex.lookup i=some pv):(i,pv)∈ex:=by
 induction ex with
 | nil=>cases h
 | cons p ex ih=>
  rw[List.lookup_cons]at h;split at h
  .rename_i he;obtain rfl:=AI h
   have:i=p.1:=by simpa using he
   rw[this];simp
  .exact acj _ (ih h)
theorem F7 {i:Nat} {o:Oper} (ho:ops[i]? = some o) {ex:List (Nat×AV)} {pv:AV} (hl:ex.lookup i=some pv) {e:Env} {H H2 H':Heap} {x:AV} (df:r7 G ex i o e) (hs:jg T ops H H2 (i,pv)) (h:Ex P T Mv G o e H x H'):H'=H/\Ex P T Mv G o e H2 x H2:=by
 unfold r7 at df
 rw[hl]at df
 unfold jg at hs;simp only[ho]at hs;obtain⟨dst,op,type,pos,after,guard⟩:=o;dsimp only at df hs
 cases op<;>dsimp only at df hs<;>try exact df.elim
 unfold Ex at h ⊢;simp only[eH,gq,rd,abh,if_false,df,acz]at h ⊢;obtain⟨c,h1,h2,rfl⟩:=h;exact⟨rfl,c,by rw[<- hs];exact h1,h2,trivial⟩
theorem UE (cg db hv:List Nat) (ex:List (Nat×AV)):Ab (xn P T Mv G N cg db hv ex ops) (xB db hv ex ops) ops:=fun i j oi oj iV fJ hc σ bz gV h1 h2=>by
 simp only[xB,OF]at hc;obtain⟨gL,mg⟩:=hc;obtain⟨di,gi,oE,h1⟩:=h1;obtain⟨dj,gj,_,h2⟩:=h2;have iq:∀ v,im oj.op (aR σ.env oi.dst v) σ.env:=fun v t ht=>(j0 gL (e:=σ.env) (v:=v)).1 t (lh ht);have jM:∀ v,im oi.op σ.env (aR σ.env oj.dst v):=fun v t ht=>((j0 gL (e:=σ.env) (v:=v)).2.1 t (lh ht)).symm;have bw:=(j0 gL (e:=σ.env) (v:=dA)).2.2;have tg:∀ {o:Oper} {c:Call} {e e':Env},eH o.op=some c->im o.op e e'->lx G e c=lx G e' c:=fun {o c e e'} hc ha=>zO fun t ht=>ha t (by rw[(uY hc).1];exact ht)
 have wN:∀ {k:Nat} {o:Oper} {e e':Env},im o.op e e'->r7 G ex k o e->r7 G ex k o e':=fun {k o e e'} ha h=>by
  unfold r7 at h ⊢;split
  .rename_i pv hl;simp only[hl]at h;split
   .rename_i t x jU;simp only[jU]at h;rw[<- eS (x:=x) fun t' wA=>ha t' (by rw[jU,wA];simp[Op.operands])];exact h
   .rename_i eQ;split at h
    .rename_i t x jU;exact absurd jU (eQ t x)
    .exact h
  .trivial
 rcases h1 with⟨bi,c,y,e1,c1,rfl⟩ | ⟨bi,vi,c,g,xs,y,H2,gN,ti,jn,e6,oG,oy,rfl⟩ | ⟨bi,vi,k1,l1,x,H',e1,ox,rfl⟩
 .-- data first
  rcases h2 with⟨bj,c',z,e2,c2,rfl⟩ | ⟨bj,vj,c',g,xs,z,H2,v7,tj,jn,e6,oG,oz,rfl⟩ | ⟨bj,vj,k2,l2,z,H2,e2,oz,rfl⟩
  .rw[qh (iq _)]at e2;refine⟨⟨aR σ.env oj.dst (.d z),σ.H⟩,⟨dj,gj,oE,.inl ⟨bj,c',z,e2,c2,rfl⟩⟩,di,gi,oE.put (mu.d _ _) _,.inl ⟨bi,c,y,?_,c1,?_⟩⟩
   .rw[<- qh (jM _)];exact e1
   .rw[kV bw]
  .rw[tg v7 (iq _)]at tj;refine⟨⟨aR σ.env oj.dst z,H2⟩,⟨dj,gj,oE,.inr (.inl ⟨bj,vj,c',g,xs,z,H2,v7,tj,jn,e6,oG,oz,rfl⟩)⟩,di,gi,oE.put oz _,.inl ⟨bi,c,y,?_,c1,?_⟩⟩
   .rw[<- qh (jM _)];exact e1
   .rw[kV bw]
  .refine⟨⟨aR σ.env oj.dst z,H2⟩,⟨dj,gj,oE,.inr (.inr ⟨bj,vj,k2,wN (iq _) l2,z,H2,e2.congr k2 (iq _),oz,rfl⟩)⟩,di,gi,oE.put oz _,.inl ⟨bi,c,y,?_,c1,?_⟩⟩
   .rw[<- qh (jM _)];exact e1
   .rw[kV bw]
 .-- a call first
  rcases h2 with⟨bj,c',z,e2,c2,rfl⟩ | ⟨bj,vj,_⟩ | ⟨bj,vj,k2,l2,z,H3,e2,oz,rfl⟩
  .rw[qh (iq _)]at e2;refine⟨⟨aR σ.env oj.dst (.d z),σ.H⟩,⟨dj,gj,oE,.inl ⟨bj,c',z,e2,c2,rfl⟩⟩,di,gi,oE.put (mu.d _ _) _,.inr (.inl ⟨bi,vi,c,g,xs,y,H2,gN,?_,jn,e6,oG,oy,?_⟩)⟩
   .rw[<- tg gN (jM _)];exact ti
   .rw[kV bw]
  .rw[bi,bj,vi]at mg;simp[vj]at mg
   simp_all
  .rw[bi,bj]at mg;have DJ:=e2.congr k2 (iq _);have KM:=wN (iq _) l2
   have hq:H3=H2/\Ex P T Mv G oj σ.env σ.H z σ.H:=by
    have hp:kindOf oj.op=0\/(ex.lookup j).isSome=true:=by
     simp only[Bool.false_or,vi,vj,if_true,ab8,Bool.true_and]at mg;simpa using mg
    rcases hp with hp | hp
    .exact⟨DJ.keeps aa,DJ.free hp σ.H⟩
    .obtain⟨pv,pL⟩:=acf.1 hp;have hs:=oG _ (Li pL);refine F7 fJ pL KM ?_ DJ;unfold jg at hs ⊢;simp only[fJ]at hs ⊢;split<;>simp_all
   obtain⟨rfl,e3⟩:=hq;refine⟨⟨aR σ.env oj.dst z,σ.H⟩,⟨dj,gj,oE,.inr (.inr ⟨bj,vj,k2,KM,z,σ.H,e3,oz,rfl⟩)⟩,di,gi,oE.put oz _,.inr (.inl ⟨bi,vi,c,g,xs,y,H3,gN,?_,jn,e6,oG,oy,?_⟩)⟩
   .rw[<- tg gN (jM _)];exact ti
   .rw[kV bw]
 .rcases h2 with⟨bj,c',z,e2,c2,rfl⟩ | ⟨bj,vj,c',g,xs,z,H2,v7,tj,jn,e6,oG,oz,rfl⟩ | ⟨bj,vj,k2,l2,z,H2,e2,oz,rfl⟩
  .rw[qh (iq _)]at e2;refine⟨⟨aR σ.env oj.dst (.d z),σ.H⟩,⟨dj,gj,oE,.inl ⟨bj,c',z,e2,c2,rfl⟩⟩,di,gi,oE.put (mu.d _ _) _,.inr (.inr ⟨bi,vi,k1,wN (jM _) l1,x,H',e1.congr k1 (jM _),ox,?_⟩)⟩;rw[kV bw]
  .rw[tg v7 (iq _)]at tj;rw[bi,bj]at mg
   have hp:kindOf oi.op=0\/(ex.lookup i).isSome=true:=by
    simp only[Bool.false_or,vi,vj,if_true,abh,if_false]at mg;simpa using mg
   have IK:=e1.congr k1 (jM z);have FT:=wN (jM z) l1
   rcases hp with hp | hp
   .obtain rfl:=e1.keeps aa;refine⟨⟨aR σ.env oj.dst z,H2⟩,⟨dj,gj,oE,.inr (.inl ⟨bj,vj,c',g,xs,z,H2,v7,tj,jn,e6,oG,oz,rfl⟩)⟩,di,gi,oE.put oz _,.inr (.inr ⟨bi,vi,k1,FT,x,H2,IK.free hp H2,ox,?_⟩)⟩;rw[kV bw]
   .obtain⟨pv,pL⟩:=acf.1 hp;have hs:=oG _ (Li pL);have hH:H'=σ.H:=(F7 (H2:=σ.H) iV pL l1 (by unfold jg;simp only[iV];unfold jg at hs;simp only[iV]at hs;split<;>simp_all) e1).1;subst hH;obtain⟨_,e3⟩:=F7 iV pL FT hs IK;refine⟨⟨aR σ.env oj.dst z,H2⟩,⟨dj,gj,oE,.inr (.inl ⟨bj,vj,c',g,xs,z,H2,v7,tj,jn,e6,oG,oz,rfl⟩)⟩,di,gi,oE.put oz _,.inr (.inr ⟨bi,vi,k1,FT,x,H2,e3,ox,?_⟩)⟩;rw[kV bw]
  .rw[bi,bj]at mg
   have cA:jO ops oi oj=true:=by simp only[jO,OF];simp only[Bool.false_or,vi,vj,abh,if_false]at mg;exact⟨gL,mg⟩
   obtain⟨H3,f1,f2⟩:=xA (N:=N) cA ⟨di,.inl ⟨lY gi,e1⟩⟩ ⟨dj,.inl ⟨lY gj,e2⟩⟩ k1 k2
   have un:∀ {o:Oper} {e:Env} {H H':Heap} {x:AV},o.guard=none->Sx P T Mv G N ops o e H x H'->Ex P T Mv G o e H x H':=fun gg h=>by
    rcases h.2 with⟨_,h⟩ | ⟨hw,_⟩
    .exact h
    .rw[lY gg]at hw;cases hw
   refine⟨⟨aR σ.env oj.dst z,H3⟩,⟨dj,gj,oE,.inr (.inr ⟨bj,vj,k2,wN (iq _) l2,z,H3,un gj f1,oz,rfl⟩)⟩,di,gi,oE.put oz _,.inr (.inr ⟨bi,vi,k1,wN (jM _) l1,x,H2,un gi f2,ox,?_⟩)⟩;rw[kV bw]
def lK (P:Program) (T:Ty) (Mv:Nat->Prop) (G:aF) (cg:List Nat) (ops:Array Oper) (ex:List (Nat×AV)) (g:FuncId) (xs:List AV) (σ:St) (dst:Option Tmp) (K:St->Prop):Prop:=∃ y H2,(∀ r∈cg,Mv r)/\HC P G cg g xs σ.H y H2/\(∀ p∈ex,jg T ops σ.H H2 p)/\mu cg y/\K ⟨aR σ.env dst y,H2⟩
theorem lK.mc {cg:List Nat} {ex:List (Nat×AV)} {dst:Option Tmp} {K:St->Prop} {fx:List Nat} {g:FuncId} {p9 xs:List AV} {dH ju:List (Nat×Row)} {y:AV} (hc:MC P G fx g xs (au dH) y (au ju)) (hx:p9.map (AV.tr (fb (dH.map (·.1))) (fa (dH.map (·.1))))=xs)
  (hH:∀ p∈dH,(σ.H p.1).map (Row.tr (fb (dH.map (·.1))) (fa (dH.map (·.1))))=au dH p.1) (hd:∀ p∈ju,(dH.map (·.1)).contains p.1=true\/σ.H p.1=none) (hm:∀ r∈dH.map (·.1),fx.contains r=false->r∈cg) (jn:∀ r∈cg,Mv r) (ho:∀ r∈cg,y.kill r=y)
  (hl:∀ p∈ex,jg T ops σ.H (kL (au ju) (fM (jc (dH.map (·.1))) (pf (dH.map (·.1)) fx) (pd (dH.map (·.1)) fx) σ.H)) p)
  (h:K ⟨aR σ.env dst y,kL (au ju) (fM (jc (dH.map (·.1))) (pf (dH.map (·.1)) fx) (pd (dH.map (·.1)) fx) σ.H)⟩):lK P T Mv G cg ops ex g p9 σ dst K:=⟨y,_,jn,.mc hc hx hH hd hm,hl,ho,h⟩
def Ci (T:Ty) (G:aF) (Mv:Nat->Prop) (cg:List Nat) (o:Oper) (σ:St) (next:St->Prop):Prop:=
 if gq o.op then match wr T G Mv σ o with
  | some (c,x,aP)=>c/\(∀ r∈cg,x.kill r=x)/\next ⟨aR aP.env o.dst x,aP.H⟩
  | none=>False
 else match rd T G σ o.op with
  | some (c,x)=>c/\(∀ r∈cg,x.kill r=x)/\next ⟨aR σ.env o.dst x,σ.H⟩
  | none=>False
def CB (P:Program) (T:Ty) (Mv:Nat->Prop) (G:aF) (N:Fr) (cg db hv:List Nat) (ex:List (Nat×AV)) (ops:Array Oper) (i:Nat) (o:Oper) (σ:St) (K:St->Prop):Prop:=iy N o/\o.guard=none/\
 if db.contains i=true then (match nu T G σ.env o with
  | some (c,y)=>c/\K ⟨aR σ.env o.dst (.d y),σ.H⟩
  | none=>False)
 else if hv.contains i=true then (match eH o.op with
  | some c=>match lx G σ.env c with
   | some (g,xs)=>lK P T Mv G cg ops ex g xs σ o.dst K
   | none=>False
  | none=>False)
 else kindOf o.op≠9/\r7 G ex i o σ.env/\match eH o.op with
  | some c=>mw P G c σ.env o.dst σ.H [] [] K
  | none=>Ci T G Mv cg o σ K
def qP (P:Program) (T:Ty) (Mv:Nat->Prop) (G:aF) (N:Fr) (cg db hv:List Nat) (ex:List (Nat×AV)) (ops:Array Oper) (K:St->Prop):List (Nat×Oper)->St->Prop
 | [],σ=>K σ
 | (i,o) :: rest,σ=>CB P T Mv G N cg db hv ex ops i o σ (qP P T Mv G N cg db hv ex ops K rest)
theorem YO {cg db hv:List Nat} {ex:List (Nat×AV)} {K:St->Prop}:∀ (l:List Nat) (σ:St),(∀ i∈l,i < ops.size)->iS cg σ.env->qP P T Mv G N cg db hv ex ops K (dZ ops l) σ->∃ c6,K c6/\nd (xn P T Mv G N cg db hv ex ops) ops l σ c6:=by
 intro l
 induction l with
 | nil=>intro σ _ _ h;exact⟨σ,h,rfl⟩
 | cons i l ih=>
  intro σ hl lf h;have hi:=hl i al
  have ho:ops[i]? = some ops[i]:=by simp[hi]
  simp only[dZ,ho]at h;generalize ops[i]=o at ho h;simp only[qP,CB]at h;obtain⟨hd,gg,h⟩:=h
  have fin:∀ bz,xn P T Mv G N cg db hv ex ops i o σ bz->iS cg bz.env->qP P T Mv G N cg db hv ex ops K (dZ ops l) bz->∃ c6,K c6/\nd (xn P T Mv G N cg db hv ex ops) ops (i :: l) σ c6:=fun bz hs hE h1=>by
   obtain⟨c6,hk,hr⟩:=ih bz (fun j hj=>hl j (by simp[hj])) hE h1;exact⟨c6,hk,o,ho,bz,hs,hr⟩
  split at h
  .rename_i hb;split at h
   .rename_i c y hw;obtain⟨hc,h⟩:=h;exact fin _ ⟨hd,gg,lf,.inl ⟨hb,c,y,hw,hc,rfl⟩⟩ (lf.put (mu.d _ _) _) h
   .exact h.elim
  .rename_i hb
   have hb:db.contains i=false:=by simpa using hb
   split at h
   .rename_i oK;split at h
    .rename_i c hc;split at h
     .rename_i g xs ht;obtain⟨y,H2,h0,h1,h2,h3,h⟩:=h;exact fin _ ⟨hd,gg,lf,.inr (.inl ⟨hb,oK,c,g,xs,y,H2,hc,ht,h0,h1,h2,h3,rfl⟩)⟩ (lf.put h3 _) h
     .exact h.elim
    .exact h.elim
   .rename_i oK
    have oK:hv.contains i=false:=by simpa using oK
    obtain⟨hk,pH,h⟩:=h;split at h
    .rename_i c hc;obtain⟨y,g,ds,ht,hp,iU,h⟩:=h;refine fin _ ⟨hd,gg,lf,.inr (.inr ⟨hb,oK,hk,pH,.d y,σ.H,?_,mu.d _ _,rfl⟩)⟩ (lf.put (mu.d _ _) _) h;unfold Ex;simp only[hc];exact⟨y,⟨g,_,ht,.inl ⟨ds,rfl,hp⟩⟩,rfl,trivial⟩
    .rename_i hc;unfold Ci at h;split at h
     .rename_i hw;split at h
      .rename_i c x bz h1;obtain⟨cA,iU,h⟩:=h;have he:=zT hk h1;obtain⟨e,H⟩:=σ;obtain⟨e1,H1⟩:=bz;dsimp only at he;subst he;refine fin _ ⟨hd,gg,lf,.inr (.inr ⟨hb,oK,hk,pH,x,H1,?_,iU,rfl⟩)⟩ (lf.put iU _) h;unfold Ex;simp only[hc];rw[if_pos hw];exact⟨c,h1,cA⟩
      .exact h.elim
     .rename_i hw;split at h
      .rename_i c x h1;obtain⟨cA,iU,h⟩:=h;refine fin _ ⟨hd,gg,lf,.inr (.inr ⟨hb,oK,hk,pH,x,σ.H,?_,iU,rfl⟩)⟩ (lf.put iU _) h;unfold Ex;simp only[hc];rw[if_neg hw];exact⟨c,h1,cA,trivial⟩
      .exact h.elim
theorem HI (hg:Good P T) (hm:P.follows .mixedOrders=true) (cg db hv:List Nat) (ex:List (Nat×AV)) (ord:List Nat) {id:Nat} (cG:p4 (xB db hv ex ops) ord ops=true) (lf:iS cg σ.env) {Q:Exit->St->Prop} (h:qP P T Mv G N cg db hv ex ops (fun aP=>Q .normal aP) (dZ ops ord) σ):AW P Mv X G N (.region id ops true) Q σ:=
 xk hm (UD hg cg db hv ex) (UE cg db hv ex) ord cG fun bf=>YO ord σ bf lf h
theorem so (hg:Good P T) (hm:P.follows .mixedOrders=true) (cg db hv:List Nat) (ex:List (Nat×AV)) (ord:List Nat) (l ns:List Nat) (hM:∀ r,ns.contains r=false->Mv r) {id:Nat} (cG:p4 (xB db hv ex ops) ord ops=true) (lf:iS cg σ.env) {y:Code} {Q:Exit->St->Prop}
  (h:∀ K:St->Prop,(∀ τ:St,AW P Mv X G N y Q (τ.norm l ns)->K τ)->qP P T Mv G N cg db hv ex ops K (dZ ops ord) σ):AW P Mv X G N (.seq (.region id ops true) y) Q σ:=
 qT (HI hg hm cg db hv ex ord cG lf (h _ fun _ h=>h.norm l ns hM))
theorem vp (hg:Good P T) (hm:P.follows .mixedOrders=true) (cg db hv:List Nat) (ex:List (Nat×AV)) (ord:List Nat) {id:Nat} (cG:p4 (xB db hv ex ops) ord ops=true) (lf:iS cg σ.env) {Q:Exit->St->Prop}
  (h:∀ K:St->Prop,(∀ τ:St,Q .normal τ->K τ)->qP P T Mv G N cg db hv ex ops K (dZ ops ord) σ):AW P Mv X G N (.region id ops true) Q σ:=HI hg hm cg db hv ex ord cG lf (h _ fun _ h=>h)
theorem dz {cg db hv:List Nat} {ex:List (Nat×AV)} {K:St->Prop} {i:Nat} {l:List Nat} {o:Oper} (ho:ops[i]? = some o) (h:∀ K':St->Prop,(∀ τ,qP P T Mv G N cg db hv ex ops K (dZ ops l) τ->K' τ)->CB P T Mv G N cg db hv ex ops i o σ K'):qP P T Mv G N cg db hv ex ops K (dZ ops (i :: l)) σ:=by
 have:dZ ops (i :: l)=(i,o) :: dZ ops l:=by simp[dZ,ho]
 rw[this];exact h _ fun _ h=>h
theorem nV {cg db hv:List Nat} {ex:List (Nat×AV)} {K:St->Prop} (h:K σ):qP P T Mv G N cg db hv ex ops K (dZ ops []) σ:=h
end
attribute [simp] CB r7 Ci
