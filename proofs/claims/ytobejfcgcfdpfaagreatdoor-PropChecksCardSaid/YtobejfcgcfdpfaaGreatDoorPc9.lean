/- Parts. -/
import Derived.Test.YtobejfcgcfdpfaaGreatDoorPc8
set_option linter.unusedSectionVars false
set_option linter.unusedSimpArgs false
set_option linter.unusedVariables false
namespace Go.Av
section
variable {P:Program} {Mv X:Nat->Prop} {G:aB} {N:Fr} {σ τ:St} {p:Prop}
theorem cK {id:Nat} {ops:Array Oper} {Q:Exit->St->Prop} (k:Q .normal τ)
  (h:∀ K':St->Prop,K' τ->lp P (cT P) Mv X G N ops K' ops.toList σ:=by
   intro K' ao;repeat (refine aK fun Kq af=>?_;simp;(repeat refine⟨aa,?_⟩);refine af _ ?_)
   exact bH ao):AW P Mv X G N (.region id ops false) Q σ:=
 fD (ay _) fun K hK=>h K (hK _ k)
theorem cA (q:p) {id:Nat} {ops:Array Oper} {Q:Exit->St->Prop} (k:Q .normal τ)
  (h:p->∀ K':St->Prop,K' τ->lp P (cT P) Mv X G N ops K' ops.toList σ:=by
   intro q K' ao;repeat (refine aK fun Kq af=>?_;simp[q];(repeat refine⟨aa,?_⟩);refine af _ ?_)
   exact bH ao):AW P Mv X G N (.region id ops false) Q σ:=
 fD (ay _) fun K hK=>h q K (hK _ k)
theorem CG {id:Nat} {ops:Array Oper} {Q:Exit->St->Prop} (k:Q .normal τ)
  (h:∀ K':St->Prop,K' τ->lp P (cT P) Mv X G N ops K' ops.toList σ:=by
   intro K' ao;repeat (refine aK fun Kq af=>?_;simp[qf];(repeat refine⟨aa,?_⟩);refine af _ ?_)
   exact bH ao):AW P Mv X G N (.region id ops false) Q σ:=
 fD (ay _) fun K hK=>h K (hK _ k)
theorem gu (r:Nat) {c:Code} {Q:Exit->St->Prop} (k:AW P Mv X G N c Q τ) (hM:Mv r:=by first | trivial | decide) (hn:σ.uw r=τ:=by simp;rfl):AW P Mv X G N c Q σ:=
 AW.imp (aL.uw r hM) (hn ▸ k)
theorem dZ (q:p) (r:Nat) {c:Code} {Q:Exit->St->Prop} (k:AW P Mv X G N c Q τ) (hM:Mv r:=by first | trivial | decide) (hn:p->σ.uw r=τ:=by intro q;simp[q];rfl):AW P Mv X G N c Q σ:=
 AW.imp (aL.uw r hM) (hn q ▸ k)
theorem fP {Q:Exit->St->Prop} (h:Q .ret σ:=by simp[D.le,D.le.go,aP,D.le_refl,D.bC]):AW P Mv X G N .ret Q σ:=bW h
theorem aY (q:p) {Q:Exit->St->Prop} (h:p->Q .ret σ:=by intro q;simp[D.le,D.le.go,aP,D.le_refl,D.bC,q]):AW P Mv X G N .ret Q σ:=bW (h q)
theorem cg {e:Env} {H:Heap} {l:List (Nat×AV)} {rows:List (Nat×Row)} (hm:∀ r,(rows.map (·.1)).contains r=false->Mv r:=by first | exact fun _ _=>trivial | exact dT rfl)
  (he:∀ p∈l,(e p.1).map (AV.tr (fY (rows.map (·.1))) (fX (rows.map (·.1))))=some p.2:=by simp)
  (hH:∀ p∈rows,(H p.1).map (Row.tr (fY (rows.map (·.1))) (fX (rows.map (·.1))))=aw rows p.1:=by simp):aL Mv X G N ⟨e,H⟩ ⟨bg l,aw rows⟩:=aL.ek hm he hH
theorem bo (q:p) {e:Env} {H:Heap} {l:List (Nat×AV)} {rows:List (Nat×Row)} (hm:∀ r,(rows.map (·.1)).contains r=false->Mv r:=by first | exact fun _ _=>trivial | exact dT rfl)
  (he:p->∀ p∈l,(e p.1).map (AV.tr (fY (rows.map (·.1))) (fX (rows.map (·.1))))=some p.2:=by intro q;simp[q])
  (hH:p->∀ p∈rows,(H p.1).map (Row.tr (fY (rows.map (·.1))) (fX (rows.map (·.1))))=aw rows p.1:=by intro q;simp[q]):aL Mv X G N ⟨e,H⟩ ⟨bg l,aw rows⟩:=aL.ek hm (he q) (hH q)
end
end Go.Av
namespace Go.Av
def pW (T:Ty) (G:aB) (e:Env) (o:Oper):Option (Prop×D):=match o.op,o.dst with
 | .box _ x,some _=>match (bJ G e x).bind jY with
  | some cs=>match nd cs with
   | some ds=>some (True,.ip ds)
   | none=>none
  | none=>none
 | .buildSlice t len parts,some _=>match T t with
  | some tt=>match tt.desc with
   | .slice q=>match T q,oR G e parts.toList with
    | some te,some ps=>match xa te.size 0 ps with
     | some els=>some (ps.length=len/\0 < te.size/\len * te.size<=16777216,.sl none els)
     | none=>none
    | _,_=>none
   | _=>none
  | none=>none
 | .makeSlice t l c,some _=>match T t with
  | some tt=>match tt.desc with
   | .slice q=>match T q,bJ G e l,bJ G e c with
    | some te,some (.d (.v (.int _ n))),some (.d (.v (.int _ m)))=>some (0<=n/\n<=m/\te.bytes * m<=281474976710656/\m<=9223372036854775807/\0 < te.size/\(gL te.zero).length=te.size,.sl none (mX te n.toNat))
    | _,_,_=>none
   | _=>none
  | none=>none
 | _,_=>none
section
variable {P:Program} {T:Ty} {Mv X:Nat->Prop} {G:aB} {N:Fr} {w:World} {μ:Mu} {a:Act} {σ:St}
theorem pn {o:Oper} {e e':Env} (h:gU o.op e e'):pW T G e o=pW T G e' o:=by
 obtain⟨dst,op,type,pos,after,guard⟩:=o;unfold gU at h;dsimp only at h;unfold pW
 cases op<;>try rfl
 case box t x=>
  cases dst with
  | none=>rfl
  | some d=>
   dsimp only;rw[fE (x:=x) fun t ht=>h t (by simp[Op.operands,ht])]
 case buildSlice t n ps=>
  cases dst with
  | none=>rfl
  | some d=>
   dsimp only;rw[GC (l:=ps.toList) fun t ht=>h t (by simpa[Op.operands]using ht)]
 case makeSlice t x y=>
  cases dst with
  | none=>rfl
  | some d=>
   dsimp only;rw[fE (x:=x) fun t ht=>h t (by simp[Op.operands,ht]),fE (x:=y) fun t ht=>h t (by simp[Op.operands,ht])]
theorem Oq (hi:In w X G μ N a σ):¬ XX X μ w.heap.size:=by
 rintro (h | h)
 .exact Nat.lt_irrefl _ (hi.bx.fits _ h)
 .exact Nat.lt_irrefl _ (hi.bx.nP h)
theorem Oo (w:World) (cur:Array Value) (t:TypeId) {o:Nat} {v:Value} (h:cur[o]? = some v):(w.alloc (.cells cur t)).cell? ⟨w.heap.size,o,none⟩=some v:=by
 rw[cell_of_row _ w.heap.size o cur t (0,0) (by simpa using heap_alloc_new w (.cells cur t))];exact h
theorem QZ (hg:Good P T) (hi:In w X G μ N a σ) {o:Oper} {c:Prop} {y:D} (h:pW T G σ.env o=some (c,y)) (hc:c) :
  ∃ v w',(execOp a.eval o).run P w = .ok (.value v) w'/\In w' X G μ N a σ/\RV w' X μ v (.d y)/\Ev Mv w μ w' μ:=by
 obtain⟨dst,op,type,pos,after,guard⟩:=o;unfold pW at h;dsimp only at h;split at h
 .rename_i t x d;split at h
  .rename_i cs cY;obtain⟨z,hz,he⟩:=amy.1 cY;split at h
   .rename_i ds n5;obtain⟨rfl,rfl⟩:=eN h;have hp:=CR (hi.eval hz) he;rw[r8 n5]at hp;obtain⟨aR,bd⟩:=hi.ry (Mv:=Mv) (cX.alloc w (.cells (a.eval x).cells t));refine⟨.pointer (some ⟨w.heap.size,0,none⟩),_,by simp[execOp,Instr.box,newVar,newRow],aR,.d (.ip (f:=fun j=>(a.eval x).cells.getD j undef) (Oq hi) ak (fun j hj=>?_) fun j c hj=>?_),bd⟩
    .have aG:j < (a.eval x).cells.size:=by rw[hp.size];simpa using hj
     exact Oo w _ t (by simp[amg,aG])
    .have aG:j < (a.eval x).cells.size:=by rw[hp.size];simpa using (BY.1 hj).1
     have:=(hp.at_ j _ (.d c) (amA aG) (by rw[amm,hj];rfl)).data;rw[amg,amA aG];exact this.ev bd
   .cases h
  .cases h
 .rename_i t len parts d;split at h
  .rename_i tt dP;split at h
   .rename_i q ea;split at h
    .rename_i te ps c8 fN;split at h
     .rename_i els zw;obtain⟨rfl,rfl⟩:=eN h;obtain⟨g2,g3,g4⟩:=hc;obtain⟨hv,hr⟩:=hi.oR fN;have hu:=hg.dI (w:=w) dP;have bp:=hg.sizeOf (w:=w) c8;have EN:=hg.zero (w:=w) c8
      obtain⟨lZ,hf,xQ,_,hl,dY,mQ⟩:=Rn (w:=w) (X:=X) (μ:=μ) (sz:=te.size) ps (parts.toList.map fun p=>(p.1,a.eval p.2)) 0 els ((Array.range (len * te.size)).map ((if len * te.size=0 then #[] else te.zero.cells)[· % (if len * te.size=0 then #[] else te.zero.cells).size]!)) zw hv
       (fun i p v h1 h2=>hr i p v h1 h2) (by simp[g2])
      have hn:¬ len * te.size > 2 ^ 24:=aa
      have e0:∀ f:Nat->Value,(Array.range 0).map f = #[]:=fun f=>by apply Array.ext<;>simp
      have sG:lZ.size=len * te.size:=by rw[xQ];simp
      have hlen:els.length=len:=aa
      obtain⟨aR,bd⟩:=hi.ry (Mv:=Mv) (cX.alloc w (.cells lZ q))
      have dK:(Instr.buildSlice t len (parts.map fun p=>(p.1,a.eval p.2))).run P w = .ok (.slice (some ⟨w.heap.size,0,none⟩) len len) (w.alloc (.cells lZ q)):=by
       by_cases h0:len * te.size=0
       .simp only[h0,if_true,e0]at hf;simp only[Instr.buildSlice,Sem.run_bind,hu,ea,Result.andThen_ok,bp,hn,if_false,h0,if_true,Sem.run_pure,e0];simp[hf,newRow]
       .simp only[h0,if_false]at hf;simp only[Instr.buildSlice,Sem.run_bind,hu,ea,Result.andThen_ok,bp,hn,if_false,h0,Sem.run_pure,EN];simp[hf,newRow]
      have k8:len<=maxLen:=by
       have:len<=len * te.size:=Nat.le_mul_of_pos_right _ g3;unfold maxLen;omega
      refine⟨.slice (some ⟨w.heap.size,0,none⟩) len len,_,by simp[execOp,dK],aR,.d ?_,bd⟩;by_cases h0:len=0
      .subst h0;obtain rfl:=amC hlen;exact .empty ak k8
      .refine .sl (sz:=te.size) (f:=fun i j=>lZ.getD (i * te.size+j) undef) ak hlen (amh _) k8 (Oq hi) dY g3 aa (fun i j fK hj=>?_) fun i j el c h1 h2=>?_
       .have aG:i * te.size+j < lZ.size:=by
         rw[sG];have:(i+1) * te.size<=len * te.size:=amB _ fK;rw[amJ]at this;omega
        rw[amR];exact Oo w _ q (by simp[amg,aG])
       .obtain⟨u,iR,bQ⟩:=mQ i j el c h1 h2;rw[amR]at iR;rw[amg,iR];exact bQ.ev bd
     .cases h
    .cases h
   .cases h
  .cases h
 .rename_i t l c d;split at h
  .rename_i tt dP;split at h
   .rename_i q ea;split at h
    .rename_i te k1 n k2 m c8 hl cU;obtain⟨rfl,rfl⟩:=eN h;obtain⟨h0,h1,h2,h3,hz,sM⟩:=hc;have el:a.eval l = .int k1 n:=(hi.eval hl).scalar;have ec:a.eval c = .int k2 m:=(hi.eval cU).scalar;obtain⟨hu,i0,ma,eV,iF,mW,_⟩:=hg q te c8;have ht:=(hg t tt dP).1;rw[ea]at ht;have dK:=run_make (P:=P) w t q i0 te.zero ht ma mW k1 k2 n m h0 h1 (by rw[iF];exact h2) h3;rw[eV]at dK;have bp:=size_madeCells te.zero.cells (m.toNat * te.size);obtain⟨aR,bd⟩:=hi.ry (Mv:=Mv) (cX.alloc w (.cells (madeCells te.zero.cells (m.toNat * te.size)) q));refine⟨.slice (some ⟨w.heap.size,0,none⟩) n.toNat m.toNat,_,by simp[execOp,el,ec,dK],aR,.d ?_,bd⟩;by_cases wo:n.toNat=0
     .rw[show mX te n.toNat=[] by rw[wo];rfl,wo];exact .empty ak (by unfold maxLen;omega)
     .have tP:=AR (w:=w) (X:=XX X μ) te.zero
      have cY:te.zero.cells.size=te.size:=by rw[tP.1,sM]
      have BT:∀ i j,i < n.toNat->j < te.size->i * te.size+j < m.toNat * te.size:=fun i j fK hj=>by
       have:(i+1) * te.size<=m.toNat * te.size:=amB _ aa;rw[amJ]at this;omega
      refine .sl (sz:=te.size) (f:=fun i j=>(madeCells te.zero.cells (m.toNat * te.size)).getD (i * te.size+j) undef) ak (by simp[mX]) aa (by unfold maxLen;omega) (Oq hi) (fun el bn=>by rw[List.eq_of_mem_replicate bn,sM]) hz aa (fun i j fK hj=>?_) fun i j el d bn hd=>?_
      .rw[amR];exact Oo w _ q (by simp[amg,bp,BT i j fK hj])
      .unfold mX at bn;rw[List.getElem?_replicate]at bn;split at bn
       .rename_i aG;obtain rfl:=AI bn
        have hj:j < te.size:=by rw[<- sM];exact (BY.1 hd).1
        have Eb:j < te.zero.cells.size:=aa
        have hb:=BT i j aG hj
        have kQ:(i * te.size+j) % te.size=j:=by rw[Nat.mul_comm,Nat.mul_add_mod,Nat.mod_eq_of_lt hj]
        have hv:(madeCells te.zero.cells (m.toNat * te.size)).getD (i * te.size+j) undef=te.zero.cells[j]:=by
         simp[amg,madeCells,hb,cY,kQ];exact getElem!_pos te.zero.cells j Eb
        rw[hv];exact (tP.2 j _ d (by simp[Eb]) hd).ev bd
       .cases bn
    .cases h
   .cases h
  .cases h
 .cases h
variable {ops:Array Oper} {db:List Nat}
def pd (P:Program) (T:Ty) (Mv:Nat->Prop) (G:aB) (N:Fr) (db:List Nat) (i:Nat) (o:Oper) (σ aH:St):Prop:=
 fb N o/\o.guard=none/\((db.contains i=true/\∃ c y,pW T G σ.env o=some (c,y)/\c/\aH=⟨aN σ.env o.dst (.d y),σ.H⟩)\/
  (db.contains i=false/\kindOf o.op≠9/\∃ x H',Ex P T Mv G o σ.env σ.H x H'/\aH=⟨aN σ.env o.dst x,H'⟩))
theorem pd.ok (hg:Good P T) {o:Oper} {i:Nat} {aH:St} (h:pd P T Mv G N db i o σ aH) (hi:In w X G μ N a σ) (ho:ops[i]? = some o) {Q:Exit->Act->World->Prop} {K:Act->World->Prop}
  (hk:∀ w' aI a',In w' X G aI N a' aH->Ev Mv w μ w' aI->K a' w'):wpOpIn (wd N.ro) 0 P ops Q i K a w:=by
 obtain⟨hd,dJ,h⟩:=h
 have fU:∀ d,o.dst=some d->d < N.n:=fun d e=>by unfold fb at hd;rw[e]at hd;exact hd
 rcases h with⟨_,c,y,h1,h2,rfl⟩ | ⟨_,h9,x,H',h1,rfl⟩
 .unfold wpOpIn;simp only[ho];rw[u7 hi (lM dJ),if_pos rfl];refine yG (fun c e=>by simp[pW,e]at h1) ?_;obtain⟨v,w',hr,aR,iu,bd⟩:=QZ (Mv:=Mv) hg hi h1 h2;unfold Oper.wp;rw[hr];exact hk _ μ _ (aR.put iu fU) bd
 .exact AH hg ⟨hd,.inl ⟨lM dJ,h1.to⟩⟩ hi ho hk
def A8 (db:List Nat) (ops:Array Oper) (i j:Nat) (oi oj:Oper):Bool:=oi.apart ops oj && (db.contains i || db.contains j || wI (kindOf oi.op) (kindOf oj.op))
theorem Ro {i j:Nat} {oi oj:Oper} (hc:A8 db ops i j oi oj=true) {σ ba iB:St} (h1:pd P T Mv G N db i oi σ ba) (h2:pd P T Mv G N db j oj ba iB) :
  ∃ jK,pd P T Mv G N db j oj σ jK/\pd P T Mv G N db i oi jK iB:=by
 simp only[A8,OF]at hc;obtain⟨eO,jO⟩:=hc;obtain⟨di,gi,h1⟩:=h1;obtain⟨dj,gj,h2⟩:=h2;have ft:∀ v,gU oj.op (aN σ.env oi.dst v) σ.env:=fun v t ht=>(jz eO (e:=σ.env) (v:=v)).1 t (lk ht);have fZ:∀ v,gU oi.op σ.env (aN σ.env oj.dst v):=fun v t ht=>((jz eO (e:=σ.env) (v:=v)).2.1 t (lk ht)).symm;have bq:=(jz eO (e:=σ.env) (v:=dI)).2.2
 rcases h1 with⟨bi,c,y,e1,c1,rfl⟩ | ⟨bi,k1,x,H',e1,rfl⟩
 .rcases h2 with⟨bj,c',z,e2,c2,rfl⟩ | ⟨bj,k2,z,H2,e2,rfl⟩
  .rw[pn (ft _)]at e2;refine⟨⟨aN σ.env oj.dst (.d z),σ.H⟩,⟨dj,gj,.inl ⟨bj,c',z,e2,c2,rfl⟩⟩,di,gi,.inl ⟨bi,c,y,?_,c1,?_⟩⟩
   .rw[<- pn (fZ _)];exact e1
   .rw[iL bq]
  .refine⟨⟨aN σ.env oj.dst z,H2⟩,⟨dj,gj,.inr ⟨bj,k2,z,H2,e2.congr k2 (ft _),rfl⟩⟩,di,gi,.inl ⟨bi,c,y,?_,c1,?_⟩⟩
   .rw[<- pn (fZ _)];exact e1
   .rw[iL bq]
 .rcases h2 with⟨bj,c',z,e2,c2,rfl⟩ | ⟨bj,k2,z,H2,e2,rfl⟩
  .rw[pn (ft _)]at e2;refine⟨⟨aN σ.env oj.dst (.d z),σ.H⟩,⟨dj,gj,.inl ⟨bj,c',z,e2,c2,rfl⟩⟩,di,gi,.inr ⟨bi,k1,x,H',e1.congr k1 (fZ _),?_⟩⟩;rw[iL bq]
  .rw[bi,bj]at jO
   have cU:lx ops oi oj=true:=by simp only[lx,OF];exact⟨eO,by simpa using jO⟩
   obtain⟨H3,f1,f2⟩:=A7 (N:=N) cU ⟨di,.inl ⟨lM gi,e1⟩⟩ ⟨dj,.inl ⟨lM gj,e2⟩⟩ k1 k2
   have un:∀ {o:Oper} {e:Env} {H H':Heap} {x:AV},o.guard=none->Sx P T Mv G N ops o e H x H'->Ex P T Mv G o e H x H':=fun dJ h=>by
    rcases h.2 with⟨_,h⟩ | ⟨hw,_⟩
    .exact h
    .rw[lM dJ]at hw;cases hw
   refine⟨⟨aN σ.env oj.dst z,H3⟩,⟨dj,gj,.inr ⟨bj,k2,z,H3,un gj f1,rfl⟩⟩,di,gi,.inr ⟨bi,k1,x,H2,un gi f2,?_⟩⟩;rw[iL bq]
def WK (P:Program) (T:Ty) (Mv:Nat->Prop) (G:aB) (N:Fr) (db:List Nat) (ops:Array Oper):List Nat->St->St->Prop:=ja (pd P T Mv G N db) ops
def OA (db:List Nat) (ord:List Nat) (ops:Array Oper):Bool:=pJ (A8 db ops) ord ops
def Jv (P:Program) (T:Ty) (Mv:Nat->Prop) (G:aB) (N:Fr) (db:List Nat) (i:Nat) (o:Oper) (σ:St) (K:St->Prop):Prop:=fb N o/\o.guard=none/\
 if db.contains i=true then (match pW T G σ.env o with
  | some (c,y)=>c/\K ⟨aN σ.env o.dst (.d y),σ.H⟩
  | none=>False)
 else kindOf o.op≠9/\match eD o.op with
  | some c=>pj P G c σ.env o.dst σ.H [] [] K
  | none=>yh T G Mv o σ [] K
def u4 (P:Program) (T:Ty) (Mv:Nat->Prop) (G:aB) (N:Fr) (db:List Nat) (K:St->Prop):List (Nat×Oper)->St->Prop
 | [],σ=>K σ
 | (i,o) :: rest,σ=>Jv P T Mv G N db i o σ (u4 P T Mv G N db K rest)
theorem ajt {K:St->Prop}:∀ (l:List Nat) (σ:St),(∀ i∈l,i < ops.size)->u4 P T Mv G N db K (b8 ops l) σ->∃ cF,K cF/\WK P T Mv G N db ops l σ cF:=by
 intro l
 induction l with
 | nil=>intro σ _ h;exact⟨σ,h,rfl⟩
 | cons i l ih=>
  intro σ hl h;have hi:=hl i ak
  have ho:ops[i]? = some ops[i]:=by simp[hi]
  simp only[b8,ho]at h;generalize ops[i]=o at ho h;simp only[u4,Jv]at h;obtain⟨hd,dJ,h⟩:=h
  have fin:∀ ba,pd P T Mv G N db i o σ ba->u4 P T Mv G N db K (b8 ops l) ba->∃ cF,K cF/\WK P T Mv G N db ops (i :: l) σ cF:=fun ba hs h1=>by
   obtain⟨cF,hk,hr⟩:=ih ba (fun j hj=>hl j (by simp[hj])) h1;exact⟨cF,hk,o,ho,ba,hs,hr⟩
  split at h
  .rename_i hb;split at h
   .rename_i c y hw;obtain⟨hc,h⟩:=h;exact fin _ ⟨hd,dJ,.inl ⟨hb,c,y,hw,hc,rfl⟩⟩ h
   .exact h.elim
  .rename_i hb
   have hb:db.contains i=false:=by simpa using hb
   obtain⟨hk,h⟩:=h;split at h
   .rename_i c hc;obtain⟨y,g,ds,ht,hp,iH,h⟩:=h;refine fin _ ⟨hd,dJ,.inr ⟨hb,hk,.d y,σ.H,?_,rfl⟩⟩ h;unfold Ex;simp only[hc];exact⟨y,⟨g,_,ht,.inl ⟨ds,rfl,hp⟩⟩,rfl,trivial⟩
   .rename_i hc;unfold yh at h;split at h
    .rename_i hw;split at h
     .rename_i c x ba h1;obtain⟨cU,iH,h⟩:=h;have he:=CT hk h1;obtain⟨e,H⟩:=σ;obtain⟨e1,H1⟩:=ba;dsimp only at he;subst he;refine fin _ ⟨hd,dJ,.inr ⟨hb,hk,x,H1,?_,rfl⟩⟩ h;unfold Ex;simp only[hc];rw[if_pos hw];exact⟨c,h1,cU⟩
     .exact h.elim
    .rename_i hw;split at h
     .rename_i c x h1;obtain⟨cU,iH,h⟩:=h;refine fin _ ⟨hd,dJ,.inr ⟨hb,hk,x,σ.H,?_,rfl⟩⟩ h;unfold Ex;simp only[hc];rw[if_neg hw];exact⟨c,h1,cU,trivial⟩
     .exact h.elim
theorem P4 (hg:Good P T) (hm:P.follows .mixedOrders=true) (db:List Nat) (ord:List Nat) {id:Nat} (cf:OA db ord ops=true) {Q:Exit->St->Prop} {σ:St} (h:u4 P T Mv G N db (fun aH=>Q .normal aH) (b8 ops ord) σ):AW P Mv X G N (.region id ops true) Q σ:=wY (Step:=pd P T Mv G N db) (cp:=A8 db ops) hm (fun i o ho σ aH h w μ a hi _ _ hk=>pd.ok hg h hi ho hk) (fun i j oi oj _ _ hc σ ba iB h1 h2=>Ro hc h1 h2) ord cf fun aG=>ajt ord σ aG h
theorem AX (hg:Good P T) (hm:P.follows .mixedOrders=true) (db:List Nat) (ord:List Nat) (l ns:List Nat) (hM:∀ r,ns.contains r=false->Mv r) {id:Nat} (cf:OA db ord ops=true) {y:Code} {Q:Exit->St->Prop} {σ:St}
  (h:∀ K:St->Prop,(∀ τ:St,AW P Mv X G N y Q (τ.norm l ns)->K τ)->u4 P T Mv G N db K (b8 ops ord) σ):AW P Mv X G N (.seq (.region id ops true) y) Q σ:=
 tZ (P4 hg hm db ord cf (h _ fun _ h=>h.norm l ns hM))
theorem Yh (hg:Good P T) (hm:P.follows .mixedOrders=true) (db:List Nat) (ord:List Nat) {id:Nat} (cf:OA db ord ops=true) {Q:Exit->St->Prop} {σ:St}
  (h:∀ K:St->Prop,(∀ τ:St,Q .normal τ->K τ)->u4 P T Mv G N db K (b8 ops ord) σ):AW P Mv X G N (.region id ops true) Q σ:=P4 hg hm db ord cf (h _ fun _ h=>h)
theorem wR {K:St->Prop} {i:Nat} {l:List Nat} {o:Oper} (ho:ops[i]? = some o) (h:∀ K':St->Prop,(∀ τ,u4 P T Mv G N db K (b8 ops l) τ->K' τ)->Jv P T Mv G N db i o σ K'):u4 P T Mv G N db K (b8 ops (i :: l)) σ:=by
 have:b8 ops (i :: l)=(i,o) :: b8 ops l:=by simp[b8,ho]
 rw[this];exact h _ fun _ h=>h
theorem AK {K:St->Prop} (h:K σ):u4 P T Mv G N db K (b8 ops []) σ:=h
end
attribute [simp] Jv pW
end Go.Av
namespace Go.Av
def Ul:Op->Bool
 | .insert _ _ _ _=>true
 | _=>false
def Vu (G:aB) (e:Env) (o:Op) (r:Nat):Prop:=match o with
 | .insert _ m _ _=>bJ G e m=some (.mp r)
 | _=>False
def XG (G:aB) (fp:List (Nat×Nat)) (e:Env) (i:Nat) (o:Op):Prop:=match fp.lookup i with
 | some r=>if Ul o=true then Vu G e o r else yf G e o r
 | none=>True
section
variable {P:Program} {T:Ty} {Mv X:Nat->Prop} {G:aB} {N:Fr} {ops:Array Oper} {fp:List (Nat×Nat)} {cn:List Nat}
variable {cl:List (Nat×AV)}
def ZB (P:Program) (G:aB) (cl:List (Nat×AV)) (i:Nat) (c:Call) (σ:St) (dst:Option Tmp) (next:St->Prop):Prop:=∃ y,cl.lookup i=some (.d y)/\(∀ H2,Dh P G ⟨σ.env,H2⟩ c y)/\next ⟨aN σ.env dst (.d y),σ.H⟩
def Xs (P:Program) (T:Ty) (Mv:Nat->Prop) (G:aB) (N:Fr) (ops:Array Oper) (fp:List (Nat×Nat)) (cn:List Nat) (cl:List (Nat×AV)) (i:Nat) (o:Oper) (σ:St) (K:St->Prop):Prop:=fb N o/\kindOf o.op≠9/\match jx ops σ.env o with
 | some b=>if b=true then XG G fp σ.env i o.op/\(match eD o.op with
  | some c=>ZB P G cl i c σ o.dst K
  | none=>cn.contains i=false/\rY T G Mv o σ K) else K ⟨aN σ.env o.dst dI,σ.H⟩
 | none=>False
attribute [simp] Xs XG Ul Vu
end
end Go.Av
namespace Go.Av
def Yy (P:Program) (t:TypeId) (name:String) (g:FuncId):Prop:=∀ (v:Value) (w:World),(invoke (.fn (.method name) #[]) #[.iface t v]).run P w = .ok (.enter g #[v]) w
def Uk:Op->Option (Operand×String)
 | .call { callee:=.invoke r name,args:=az,argTypes:=_ }=>if az.isEmpty then some (r,name) else none
 | _=>none
def lL (P:Program) (T:Ty) (Mv X:Nat->Prop) (G:aB) (N:Fr) (ops:Array Oper) (o:Oper) (σ:St) (K:St->Prop):Prop:=fb N o/\match jx ops σ.env o with
 | some b=>if b=true then (match Uk o.op with
  | some (r,name)=>∃ t x g,bJ G σ.env r=some (.d (.cC t x))/\Yy P t name g/\cZ P Mv X G N g [.d x] σ o.dst K
  | none=>nR P T Mv X G N o σ K) else K ⟨aN σ.env o.dst dI,σ.H⟩
 | none=>False
section
variable {P:Program} {T:Ty} {Mv X:Nat->Prop} {G:aB} {N:Fr} {w:World} {μ:Mu} {a:Act} {σ:St}
attribute [simp] lL Uk nR
end
