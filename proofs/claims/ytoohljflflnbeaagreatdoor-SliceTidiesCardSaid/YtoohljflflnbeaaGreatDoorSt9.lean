/- Parts. -/
import Derived.Test.YtoohljflflnbeaaGreatDoorSt8
set_option linter.unusedSectionVars false
set_option linter.unusedSimpArgs false
set_option linter.unusedVariables false
namespace Go.Av
def nu (T:Ty) (G:aF) (e:Env) (o:Oper):Option (Prop×D):=match o.op,o.dst with
 | .box _ x,some _=>match (bG G e x).bind gU with
  | some cs=>match kA cs with
   | some ds=>some (True,.ip ds)
   | none=>none
  | none=>none
 | .buildSlice t len parts,some _=>match T t with
  | some tt=>match tt.desc with
   | .slice q=>match T q,lG G e parts.toList with
    | some te,some ps=>match sB te.size 0 ps with
     | some els=>some (ps.length=len/\0 < te.size/\len * te.size<=16777216,.sl none els)
     | none=>none
    | _,_=>none
   | _=>none
  | none=>none
 | .makeSlice t l c,some _=>match T t with
  | some tt=>match tt.desc with
   | .slice q=>match T q,bG G e l,bG G e c with
    | some te,some (.d (.v (.int _ n))),some (.d (.v (.int _ m)))=>some (0<=n/\n<=m/\te.bytes * m<=281474976710656/\m<=9223372036854775807/\0 < te.size/\(kY te.zero).length=te.size,.sl none (r9 te n.toNat))
    | _,_,_=>none
   | _=>none
  | none=>none
 | _,_=>none
section
variable {P:Program} {T:Ty} {Mv X:Nat->Prop} {G:aF} {N:Fr} {w:World} {μ:Mu} {a:Act} {σ:St}
theorem qh {o:Oper} {e e':Env} (h:im o.op e e'):nu T G e o=nu T G e' o:=by
 obtain⟨dst,op,type,pos,after,guard⟩:=o;unfold im at h;dsimp only at h;unfold nu
 cases op<;>try rfl
 case box t x=>
  cases dst with
  | none=>rfl
  | some d=>
   dsimp only;rw[eS (x:=x) fun t ht=>h t (by simp[Op.operands,ht])]
 case buildSlice t n ps=>
  cases dst with
  | none=>rfl
  | some d=>
   dsimp only;rw[AL (l:=ps.toList) fun t ht=>h t (by simpa[Op.operands]using ht)]
 case makeSlice t x y=>
  cases dst with
  | none=>rfl
  | some d=>
   dsimp only;rw[eS (x:=x) fun t ht=>h t (by simp[Op.operands,ht]),eS (x:=y) fun t ht=>h t (by simp[Op.operands,ht])]
theorem Gp (hi:In w X G μ N a σ):¬ XX X μ w.heap.size:=by
 rintro (h | h)
 .exact Nat.lt_irrefl _ (hi.bo.fits _ h)
 .exact Nat.lt_irrefl _ (hi.bo.lB h)
theorem Gn (w:World) (cur:Array Value) (t:TypeId) {o:Nat} {v:Value} (h:cur[o]? = some v):(w.alloc (.cells cur t)).cell? ⟨w.heap.size,o,none⟩=some v:=by
 rw[cell_of_row _ w.heap.size o cur t (0,0) (by simpa using heap_alloc_new w (.cells cur t))];exact h
theorem IF (hg:Good P T) (hi:In w X G μ N a σ) {o:Oper} {c:Prop} {y:D} (h:nu T G σ.env o=some (c,y)) (hc:c) :
  ∃ v w',(execOp a.eval o).run P w = .ok (.value v) w'/\In w' X G μ N a σ/\RV w' X μ v (.d y)/\Ev Mv w μ w' μ:=by
 obtain⟨dst,op,type,pos,after,guard⟩:=o;unfold nu at h;dsimp only at h;split at h
 .rename_i t x d;split at h
  .rename_i cs cK;obtain⟨z,hz,he⟩:=abd.1 cK;split at h
   .rename_i ds ld;obtain⟨rfl,rfl⟩:=dI h;have hp:=xh (hi.eval hz) he;rw[oV ld]at hp;obtain⟨bn,br⟩:=hi.pA (Mv:=Mv) (cT.alloc w (.cells (a.eval x).cells t));refine⟨.pointer (some ⟨w.heap.size,0,none⟩),_,by simp[execOp,Instr.box,newVar,newRow],bn,.d (.ip (f:=fun j=>(a.eval x).cells.getD j undef) (Gp hi) al (fun j hj=>?_) fun j c hj=>?_),br⟩
    .have bf:j < (a.eval x).cells.size:=by rw[hp.size];simpa using hj
     exact Gn w _ t (by simp[aa2,bf])
    .have bf:j < (a.eval x).cells.size:=by rw[hp.size];simpa using (By.1 hj).1
     have:=(hp.at_ j _ (.d c) (abn bf) (by rw[aa3,hj];rfl)).data;rw[aa2,abn bf];exact this.ev br
   .cases h
  .cases h
 .rename_i t len parts d;split at h
  .rename_i tt dY;split at h
   .rename_i q dM;split at h
    .rename_i te ps cH eY;split at h
     .rename_i els rG;obtain⟨rfl,rfl⟩:=dI h;obtain⟨g2,g3,g4⟩:=hc;obtain⟨hv,hr⟩:=hi.lG eY;have hu:=hg.dA (w:=w) dY;have bc:=hg.sizeOf (w:=w) cH;have y5:=hg.zero (w:=w) cH
      obtain⟨jN,hf,sW,_,hl,dk,nC⟩:=I0 (w:=w) (X:=X) (μ:=μ) (sz:=te.size) ps (parts.toList.map fun p=>(p.1,a.eval p.2)) 0 els ((Array.range (len * te.size)).map ((if len * te.size=0 then #[] else te.zero.cells)[· % (if len * te.size=0 then #[] else te.zero.cells).size]!)) rG hv
       (fun i p v h1 h2=>hr i p v h1 h2) (by simp[g2])
      have hn:¬ len * te.size > 2 ^ 24:=aa
      have e0:∀ f:Nat->Value,(Array.range 0).map f = #[]:=fun f=>by apply Array.ext<;>simp
      have qz:jN.size=len * te.size:=by rw[sW];simp
      have hlen:els.length=len:=aa
      obtain⟨bn,br⟩:=hi.pA (Mv:=Mv) (cT.alloc w (.cells jN q))
      have e9:(Instr.buildSlice t len (parts.map fun p=>(p.1,a.eval p.2))).run P w = .ok (.slice (some ⟨w.heap.size,0,none⟩) len len) (w.alloc (.cells jN q)):=by
       by_cases h0:len * te.size=0
       .simp only[h0,if_true,e0]at hf;simp only[Instr.buildSlice,Sem.run_bind,hu,dM,Result.andThen_ok,bc,hn,if_false,h0,if_true,Sem.run_pure,e0];simp[hf,newRow]
       .simp only[h0,if_false]at hf;simp only[Instr.buildSlice,Sem.run_bind,hu,dM,Result.andThen_ok,bc,hn,if_false,h0,Sem.run_pure,y5];simp[hf,newRow]
      have jl:len<=maxLen:=by
       have:len<=len * te.size:=Nat.le_mul_of_pos_right _ g3;unfold maxLen;omega
      refine⟨.slice (some ⟨w.heap.size,0,none⟩) len len,_,by simp[execOp,e9],bn,.d ?_,br⟩;by_cases h0:len=0
      .subst h0;obtain rfl:=abx hlen;exact .empty al jl
      .refine .sl (sz:=te.size) (f:=fun i j=>jN.getD (i * te.size+j) undef) al hlen (aa8 _) jl (Gp hi) dk g3 aa (fun i j eO hj=>?_) fun i j el c h1 h2=>?_
       .have bf:i * te.size+j < jN.size:=by
         rw[qz];have:(i+1) * te.size<=len * te.size:=abl _ eO;rw[abJ]at this;omega
        rw[abe];exact Gn w _ q (by simp[aa2,bf])
       .obtain⟨u,mO,cm⟩:=nC i j el c h1 h2;rw[abe]at mO;rw[aa2,mO];exact cm.ev br
     .cases h
    .cases h
   .cases h
  .cases h
 .rename_i t l c d;split at h
  .rename_i tt dY;split at h
   .rename_i q dM;split at h
    .rename_i te k1 n k2 m cH hl cA;obtain⟨rfl,rfl⟩:=dI h;obtain⟨h0,h1,h2,h3,hz,r3⟩:=hc;have el:a.eval l = .int k1 n:=(hi.eval hl).scalar;have ec:a.eval c = .int k2 m:=(hi.eval cA).scalar;obtain⟨hu,i0,l8,gF,pC,oL,_⟩:=hg q te cH;have ht:=(hg t tt dY).1;rw[dM]at ht;have e9:=run_make (P:=P) w t q i0 te.zero ht l8 oL k1 k2 n m h0 h1 (by rw[pC];exact h2) h3;rw[gF]at e9;have bc:=size_madeCells te.zero.cells (m.toNat * te.size);obtain⟨bn,br⟩:=hi.pA (Mv:=Mv) (cT.alloc w (.cells (madeCells te.zero.cells (m.toNat * te.size)) q));refine⟨.slice (some ⟨w.heap.size,0,none⟩) n.toNat m.toNat,_,by simp[execOp,el,ec,e9],bn,.d ?_,br⟩;by_cases yH:n.toNat=0
     .rw[show r9 te n.toNat=[] by rw[yH];rfl,yH];exact .empty al (by unfold maxLen;omega)
     .have r0:=xi (w:=w) (X:=XX X μ) te.zero
      have cK:te.zero.cells.size=te.size:=by rw[r0.1,r3]
      have v8:∀ i j,i < n.toNat->j < te.size->i * te.size+j < m.toNat * te.size:=fun i j eO hj=>by
       have:(i+1) * te.size<=m.toNat * te.size:=abl _ aa;rw[abJ]at this;omega
      refine .sl (sz:=te.size) (f:=fun i j=>(madeCells te.zero.cells (m.toNat * te.size)).getD (i * te.size+j) undef) al (by simp[r9]) aa (by unfold maxLen;omega) (Gp hi) (fun el bu=>by rw[List.eq_of_mem_replicate bu,r3]) hz aa (fun i j eO hj=>?_) fun i j el d bu hd=>?_
      .rw[abe];exact Gn w _ q (by simp[aa2,bc,v8 i j eO hj])
      .unfold r9 at bu;rw[List.getElem?_replicate]at bu;split at bu
       .rename_i bf;obtain rfl:=AI bu
        have hj:j < te.size:=by rw[<- r3];exact (By.1 hd).1
        have yo:j < te.zero.cells.size:=aa
        have hb:=v8 i j bf hj
        have E2:(i * te.size+j) % te.size=j:=by rw[Nat.mul_comm,Nat.mul_add_mod,Nat.mod_eq_of_lt hj]
        have hv:(madeCells te.zero.cells (m.toNat * te.size)).getD (i * te.size+j) undef=te.zero.cells[j]:=by
         simp[aa2,madeCells,hb,cK,E2];exact getElem!_pos te.zero.cells j yo
        rw[hv];exact (r0.2 j _ d (by simp[yo]) hd).ev br
       .cases bu
    .cases h
   .cases h
  .cases h
 .cases h
variable {ops:Array Oper} {db:List Nat}
def l3 (P:Program) (T:Ty) (Mv:Nat->Prop) (G:aF) (N:Fr) (db:List Nat) (i:Nat) (o:Oper) (σ aP:St):Prop:=
 iy N o/\o.guard=none/\((db.contains i=true/\∃ c y,nu T G σ.env o=some (c,y)/\c/\aP=⟨aR σ.env o.dst (.d y),σ.H⟩)\/
  (db.contains i=false/\kindOf o.op≠9/\∃ x H',Ex P T Mv G o σ.env σ.H x H'/\aP=⟨aR σ.env o.dst x,H'⟩))
theorem l3.ok (hg:Good P T) {o:Oper} {i:Nat} {aP:St} (h:l3 P T Mv G N db i o σ aP) (hi:In w X G μ N a σ) (ho:ops[i]? = some o) {Q:Exit->Act->World->Prop} {K:Act->World->Prop}
  (hk:∀ w' aK a',In w' X G aK N a' aP->Ev Mv w μ w' aK->K a' w'):wpOpIn (wd N.ro) 0 P ops Q i K a w:=by
 obtain⟨hd,gg,h⟩:=h
 have iw:∀ d,o.dst=some d->d < N.n:=fun d e=>by unfold iy at hd;rw[e]at hd;exact hd
 rcases h with⟨_,c,y,h1,h2,rfl⟩ | ⟨_,h9,x,H',h1,rfl⟩
 .unfold wpOpIn;simp only[ho];rw[vl hi (lY gg),if_pos rfl];refine CY (fun c e=>by simp[nu,e]at h1) ?_;obtain⟨v,w',hr,bn,gp,br⟩:=IF (Mv:=Mv) hg hi h1 h2;unfold Oper.wp;rw[hr];exact hk _ μ _ (bn.put gp iw) br
 .exact zI hg ⟨hd,.inl ⟨lY gg,h1.to⟩⟩ hi ho hk
def vB (db:List Nat) (ops:Array Oper) (i j:Nat) (oi oj:Oper):Bool:=oi.apart ops oj && (db.contains i || db.contains j || s9 (kindOf oi.op) (kindOf oj.op))
theorem I1 {i j:Nat} {oi oj:Oper} (hc:vB db ops i j oi oj=true) {σ bz gV:St} (h1:l3 P T Mv G N db i oi σ bz) (h2:l3 P T Mv G N db j oj bz gV) :
  ∃ jx,l3 P T Mv G N db j oj σ jx/\l3 P T Mv G N db i oi jx gV:=by
 simp only[vB,OF]at hc;obtain⟨gL,mg⟩:=hc;obtain⟨di,gi,h1⟩:=h1;obtain⟨dj,gj,h2⟩:=h2;have iq:∀ v,im oj.op (aR σ.env oi.dst v) σ.env:=fun v t ht=>(j0 gL (e:=σ.env) (v:=v)).1 t (lh ht);have jM:∀ v,im oi.op σ.env (aR σ.env oj.dst v):=fun v t ht=>((j0 gL (e:=σ.env) (v:=v)).2.1 t (lh ht)).symm;have bw:=(j0 gL (e:=σ.env) (v:=dA)).2.2
 rcases h1 with⟨bi,c,y,e1,c1,rfl⟩ | ⟨bi,k1,x,H',e1,rfl⟩
 .rcases h2 with⟨bj,c',z,e2,c2,rfl⟩ | ⟨bj,k2,z,H2,e2,rfl⟩
  .rw[qh (iq _)]at e2;refine⟨⟨aR σ.env oj.dst (.d z),σ.H⟩,⟨dj,gj,.inl ⟨bj,c',z,e2,c2,rfl⟩⟩,di,gi,.inl ⟨bi,c,y,?_,c1,?_⟩⟩
   .rw[<- qh (jM _)];exact e1
   .rw[kV bw]
  .refine⟨⟨aR σ.env oj.dst z,H2⟩,⟨dj,gj,.inr ⟨bj,k2,z,H2,e2.congr k2 (iq _),rfl⟩⟩,di,gi,.inl ⟨bi,c,y,?_,c1,?_⟩⟩
   .rw[<- qh (jM _)];exact e1
   .rw[kV bw]
 .rcases h2 with⟨bj,c',z,e2,c2,rfl⟩ | ⟨bj,k2,z,H2,e2,rfl⟩
  .rw[qh (iq _)]at e2;refine⟨⟨aR σ.env oj.dst (.d z),σ.H⟩,⟨dj,gj,.inl ⟨bj,c',z,e2,c2,rfl⟩⟩,di,gi,.inr ⟨bi,k1,x,H',e1.congr k1 (jM _),?_⟩⟩;rw[kV bw]
  .rw[bi,bj]at mg
   have cA:jO ops oi oj=true:=by simp only[jO,OF];exact⟨gL,by simpa using mg⟩
   obtain⟨H3,f1,f2⟩:=xA (N:=N) cA ⟨di,.inl ⟨lY gi,e1⟩⟩ ⟨dj,.inl ⟨lY gj,e2⟩⟩ k1 k2
   have un:∀ {o:Oper} {e:Env} {H H':Heap} {x:AV},o.guard=none->Sx P T Mv G N ops o e H x H'->Ex P T Mv G o e H x H':=fun gg h=>by
    rcases h.2 with⟨_,h⟩ | ⟨hw,_⟩
    .exact h
    .rw[lY gg]at hw;cases hw
   refine⟨⟨aR σ.env oj.dst z,H3⟩,⟨dj,gj,.inr ⟨bj,k2,z,H3,un gj f1,rfl⟩⟩,di,gi,.inr ⟨bi,k1,x,H2,un gi f2,?_⟩⟩;rw[kV bw]
def MI (P:Program) (T:Ty) (Mv:Nat->Prop) (G:aF) (N:Fr) (db:List Nat) (ops:Array Oper):List Nat->St->St->Prop:=nd (l3 P T Mv G N db) ops
def Gu (db:List Nat) (ord:List Nat) (ops:Array Oper):Bool:=p4 (vB db ops) ord ops
def CA (P:Program) (T:Ty) (Mv:Nat->Prop) (G:aF) (N:Fr) (db:List Nat) (i:Nat) (o:Oper) (σ:St) (K:St->Prop):Prop:=iy N o/\o.guard=none/\
 if db.contains i=true then (match nu T G σ.env o with
  | some (c,y)=>c/\K ⟨aR σ.env o.dst (.d y),σ.H⟩
  | none=>False)
 else kindOf o.op≠9/\match eH o.op with
  | some c=>mw P G c σ.env o.dst σ.H [] [] K
  | none=>tw T G Mv o σ [] K
def qN (P:Program) (T:Ty) (Mv:Nat->Prop) (G:aF) (N:Fr) (db:List Nat) (K:St->Prop):List (Nat×Oper)->St->Prop
 | [],σ=>K σ
 | (i,o) :: rest,σ=>CA P T Mv G N db i o σ (qN P T Mv G N db K rest)
theorem YJ {K:St->Prop}:∀ (l:List Nat) (σ:St),(∀ i∈l,i < ops.size)->qN P T Mv G N db K (dZ ops l) σ->∃ c6,K c6/\MI P T Mv G N db ops l σ c6:=by
 intro l
 induction l with
 | nil=>intro σ _ h;exact⟨σ,h,rfl⟩
 | cons i l ih=>
  intro σ hl h;have hi:=hl i al
  have ho:ops[i]? = some ops[i]:=by simp[hi]
  simp only[dZ,ho]at h;generalize ops[i]=o at ho h;simp only[qN,CA]at h;obtain⟨hd,gg,h⟩:=h
  have fin:∀ bz,l3 P T Mv G N db i o σ bz->qN P T Mv G N db K (dZ ops l) bz->∃ c6,K c6/\MI P T Mv G N db ops (i :: l) σ c6:=fun bz hs h1=>by
   obtain⟨c6,hk,hr⟩:=ih bz (fun j hj=>hl j (by simp[hj])) h1;exact⟨c6,hk,o,ho,bz,hs,hr⟩
  split at h
  .rename_i hb;split at h
   .rename_i c y hw;obtain⟨hc,h⟩:=h;exact fin _ ⟨hd,gg,.inl ⟨hb,c,y,hw,hc,rfl⟩⟩ h
   .exact h.elim
  .rename_i hb
   have hb:db.contains i=false:=by simpa using hb
   obtain⟨hk,h⟩:=h;split at h
   .rename_i c hc;obtain⟨y,g,ds,ht,hp,iU,h⟩:=h;refine fin _ ⟨hd,gg,.inr ⟨hb,hk,.d y,σ.H,?_,rfl⟩⟩ h;unfold Ex;simp only[hc];exact⟨y,⟨g,_,ht,.inl ⟨ds,rfl,hp⟩⟩,rfl,trivial⟩
   .rename_i hc;unfold tw at h;split at h
    .rename_i hw;split at h
     .rename_i c x bz h1;obtain⟨cA,iU,h⟩:=h;have he:=zT hk h1;obtain⟨e,H⟩:=σ;obtain⟨e1,H1⟩:=bz;dsimp only at he;subst he;refine fin _ ⟨hd,gg,.inr ⟨hb,hk,x,H1,?_,rfl⟩⟩ h;unfold Ex;simp only[hc];rw[if_pos hw];exact⟨c,h1,cA⟩
     .exact h.elim
    .rename_i hw;split at h
     .rename_i c x h1;obtain⟨cA,iU,h⟩:=h;refine fin _ ⟨hd,gg,.inr ⟨hb,hk,x,σ.H,?_,rfl⟩⟩ h;unfold Ex;simp only[hc];rw[if_neg hw];exact⟨c,h1,cA,trivial⟩
     .exact h.elim
theorem HD (hg:Good P T) (hm:P.follows .mixedOrders=true) (db:List Nat) (ord:List Nat) {id:Nat} (cG:Gu db ord ops=true) {Q:Exit->St->Prop} {σ:St} (h:qN P T Mv G N db (fun aP=>Q .normal aP) (dZ ops ord) σ):AW P Mv X G N (.region id ops true) Q σ:=xk (Step:=l3 P T Mv G N db) (cp:=vB db ops) hm (fun i o ho σ aP h w μ a hi _ _ hk=>l3.ok hg h hi ho hk) (fun i j oi oj _ _ hc σ bz gV h1 h2=>I1 hc h1 h2) ord cG fun bf=>YJ ord σ bf h
theorem vo (hg:Good P T) (hm:P.follows .mixedOrders=true) (db:List Nat) (ord:List Nat) (l ns:List Nat) (hM:∀ r,ns.contains r=false->Mv r) {id:Nat} (cG:Gu db ord ops=true) {y:Code} {Q:Exit->St->Prop} {σ:St}
  (h:∀ K:St->Prop,(∀ τ:St,AW P Mv X G N y Q (τ.norm l ns)->K τ)->qN P T Mv G N db K (dZ ops ord) σ):AW P Mv X G N (.seq (.region id ops true) y) Q σ:=
 qT (HD hg hm db ord cG (h _ fun _ h=>h.norm l ns hM))
theorem NR (hg:Good P T) (hm:P.follows .mixedOrders=true) (db:List Nat) (ord:List Nat) {id:Nat} (cG:Gu db ord ops=true) {Q:Exit->St->Prop} {σ:St}
  (h:∀ K:St->Prop,(∀ τ:St,Q .normal τ->K τ)->qN P T Mv G N db K (dZ ops ord) σ):AW P Mv X G N (.region id ops true) Q σ:=HD hg hm db ord cG (h _ fun _ h=>h)
theorem sg {K:St->Prop} {i:Nat} {l:List Nat} {o:Oper} (ho:ops[i]? = some o) (h:∀ K':St->Prop,(∀ τ,qN P T Mv G N db K (dZ ops l) τ->K' τ)->CA P T Mv G N db i o σ K'):qN P T Mv G N db K (dZ ops (i :: l)) σ:=by
 have:dZ ops (i :: l)=(i,o) :: dZ ops l:=by simp[dZ,ho]
 rw[this];exact h _ fun _ h=>h
theorem vf {K:St->Prop} (h:K σ):qN P T Mv G N db K (dZ ops []) σ:=h
end
attribute [simp] CA nu
end Go.Av
namespace Go.Av
def Kx:Op->Bool
 | .insert _ _ _ _=>true
 | _=>false
def LG (G:aF) (e:Env) (o:Op) (r:Nat):Prop:=match o with
 | .insert _ m _ _=>bG G e m=some (.mp r)
 | _=>False
def Nl (G:aF) (fp:List (Nat×Nat)) (e:Env) (i:Nat) (o:Op):Prop:=match fp.lookup i with
 | some r=>if Kx o=true then LG G e o r else tq G e o r
 | none=>True
section
variable {P:Program} {T:Ty} {Mv X:Nat->Prop} {G:aF} {N:Fr} {ops:Array Oper} {fp:List (Nat×Nat)} {cn:List Nat}
variable {cl:List (Nat×AV)}
def O6 (P:Program) (G:aF) (cl:List (Nat×AV)) (i:Nat) (c:Call) (σ:St) (dst:Option Tmp) (next:St->Prop):Prop:=∃ y,cl.lookup i=some (.d y)/\(∀ H2,xx P G ⟨σ.env,H2⟩ c y)/\next ⟨aR σ.env dst (.d y),σ.H⟩
def M8 (P:Program) (T:Ty) (Mv:Nat->Prop) (G:aF) (N:Fr) (ops:Array Oper) (fp:List (Nat×Nat)) (cn:List Nat) (cl:List (Nat×AV)) (i:Nat) (o:Oper) (σ:St) (K:St->Prop):Prop:=iy N o/\kindOf o.op≠9/\match jK ops σ.env o with
 | some b=>if b=true then Nl G fp σ.env i o.op/\(match eH o.op with
  | some c=>O6 P G cl i c σ o.dst K
  | none=>cn.contains i=false/\oQ T G Mv o σ K) else K ⟨aR σ.env o.dst dA,σ.H⟩
 | none=>False
attribute [simp] M8 Nl Kx LG
end
end Go.Av
namespace Go.Av
def su (P:Program) (t:TypeId) (name:String) (g:FuncId):Prop:=∀ (v:Value) (w:World),(invoke (.fn (.method name) #[]) #[.iface t v]).run P w = .ok (.enter g #[v]) w
def FK:Op->Option (Operand×String)
 | .call { callee:=.invoke r name,args:=az,argTypes:=_ }=>if az.isEmpty then some (r,name) else none
 | _=>none
def G5 (P:Program) (T:Ty) (Mv X:Nat->Prop) (G:aF) (N:Fr) (ops:Array Oper) (o:Oper) (σ:St) (K:St->Prop):Prop:=iy N o/\match jK ops σ.env o with
 | some b=>if b=true then (match FK o.op with
  | some (r,name)=>∃ t x g,bG G σ.env r=some (.d (.b6 t x))/\su P t name g/\ch P Mv X G N g [.d x] σ o.dst K
  | none=>lH P T Mv X G N o σ K) else K ⟨aR σ.env o.dst dA,σ.H⟩
 | none=>False
def vg (P:Program) (T:Ty) (Mv X:Nat->Prop) (G:aF) (N:Fr) (ops:Array Oper) (K:St->Prop):List Oper->St->Prop
 | [],σ=>K σ
 | o :: rest,σ=>G5 P T Mv X G N ops o σ (vg P T Mv X G N ops K rest)
section
variable {P:Program} {T:Ty} {Mv X:Nat->Prop} {G:aF} {N:Fr} {w:World} {μ:Mu} {a:Act} {σ:St}
theorem jZ {ops:Array Oper} {K:St->Prop} {o:Oper} {rest:List Oper} (h:∀ K':St->Prop,(∀ τ,vg P T Mv X G N ops K rest τ->K' τ)->G5 P T Mv X G N ops o σ K'):vg P T Mv X G N ops K (o :: rest) σ:=h _ fun _ h=>h
theorem vh {ops:Array Oper} {K:St->Prop} (h:K σ):vg P T Mv X G N ops K [] σ:=h
theorem YM (hg:Good P T) {ops:Array Oper} {Q:Exit->St->Prop} {w0:World} {mn:Mu}:∀ (l:List Oper) (k:Nat) (w:World) (μ:Mu) (a:Act) (σ:St),(∀ j,l[j]? = ops[k+j]?)->vg P T Mv X G N ops (fun aP=>Q .normal aP) l σ->In w X G μ N a σ->Ev Mv w0 mn w μ->
  wpOpsIn (wd N.ro) 0 P ops (After Mv X G N w0 mn Q) (List.range' k l.length) a w:=by
 intro l
 induction l with
 | nil=>intro k w μ a σ _ h hi br;exact⟨μ,σ,h,hi,br⟩
 | cons o l ih=>
  intro k w μ a σ hl h hi br
  have h0:ops[k]? = some o:=by simpa using (hl 0).symm
  have eX:∀ j,l[j]? = ops[k+1+j]?:=fun j=>by have:=hl (j+1);simpa[abZ,Nat.add_comm 1 j]using this
  obtain⟨hd,h⟩:=h
  have iw:∀ d,o.dst=some d->d < N.n:=fun d e=>by unfold iy at hd;rw[e]at hd;exact hd
  rw[aa9,List.range'_succ];simp only[wpOpsIn,h0];split at h
  .rename_i b hb;rw[vl hi hb];split at h
   .rename_i lJ;subst lJ;rw[if_pos rfl];split at h
    .rename_i r name wa;obtain⟨t,x,g,he,hinv,JD,eL⟩:=h;obtain⟨v,hv,hr⟩:=(hi.eval he).data.r4
     have ho:∃ at',o.op = .call { callee:=.invoke r name,args:=#[],argTypes:=at' }:=by
      unfold FK at wa;split at wa
      .rename_i r' n' az at' jU;split at wa
       .rename_i RE;obtain⟨rfl,rfl⟩:=dI wa
        have:az = #[]:=by simpa using RE
        subst this;exact⟨_,jU⟩
       .cases wa
      .cases wa
     obtain⟨at',ho⟩:=ho;refine CY (fun c e=>by rw[ho]at e;cases e) ?_;unfold Oper.wp
     have hex:(execOp a.eval o).run P w = .ok (.enter g #[v]) w:=by
      have:(execOp a.eval o)=(invoke (.fn (.method name) #[]) #[.iface t v]):=by
       simp[execOp,ho,resolve,hv]
      rw[this];exact hinv v w
     rw[hex];refine (eL w μ a #[v] hi rfl fun i u y hu hy=>?_).mono fun e w' ⟨v,x,aP,aK,he,k',bn,gp,oC⟩=>?_
     .cases i with
      | zero=>simp at hu hy;subst hu hy;exact .d hr
      | succ i=>simp at hu
     .subst he;exact ih (k+1) w' aK _ _ eX k' (bn.put gp iw) (br.trans oC)
    .exact (xK hg hi iw h fun w' aK a' aP k' bn oC=>ih (k+1) w' aK a' aP eX k' bn (br.trans oC))
   .rename_i yb;rw[if_neg (by simpa using yb)];exact⟨fun _ _=>trivial,ih (k+1) w μ _ _ eX h (hi.put (.d (.v _)) iw) br⟩
  .exact h.elim
theorem NT (hg:Good P T) {id:Nat} {ops:Array Oper} {Q:Exit->St->Prop} (h:vg P T Mv X G N ops (fun aP=>Q .normal aP) ops.toList σ):AW P Mv X G N (.region id ops false) Q σ:=fun w μ a hi=>by
 refine wpIn_region ?_;have:=YM hg ops.toList 0 w μ a σ al h hi (.refl _ w μ)
 rwa [<- List.range_eq_range',abO]at this
theorem tO (hg:Good P T) (l ns:List Nat) (hM:∀ r,ns.contains r=false->Mv r) {id:Nat} {ops:Array Oper} {y:Code} {Q:Exit->St->Prop}
  (h:∀ K:St->Prop,(∀ τ:St,AW P Mv X G N y Q (τ.norm l ns)->K τ)->vg P T Mv X G N ops K ops.toList σ):AW P Mv X G N (.seq (.region id ops false) y) Q σ:=
 qT (NT hg (h _ fun _ h=>h.norm l ns hM))
attribute [simp] G5 FK lH
end
