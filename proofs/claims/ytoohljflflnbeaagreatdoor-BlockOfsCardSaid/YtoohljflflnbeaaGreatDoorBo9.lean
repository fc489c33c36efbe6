/- Parts. -/
import Derived.Test.YtoohljflflnbeaaGreatDoorBo8
set_option linter.unusedSectionVars false
set_option linter.unusedSimpArgs false
set_option linter.unusedVariables false
namespace Go.Av
section
variable {P:Program} {Mv X:Nat->Prop} {G:aC} {N:Fr} {σ τ:St} {p:Prop}
theorem c6 {id:Nat} {ops:Array Oper} {Q:Exit->St->Prop} (k:Q .normal τ)
  (h:∀ K':St->Prop,K' τ->ku P (cF P) Mv X G N ops K' ops.toList σ:=by
   intro K' ao;repeat (refine aM fun Kq af=>?_;simp;(repeat refine⟨aa,?_⟩);refine af _ ?_)
   exact bK ao):AW P Mv X G N (.region id ops false) Q σ:=
 eU (aB _) fun K hK=>h K (hK _ k)
theorem cE (q:p) {id:Nat} {ops:Array Oper} {Q:Exit->St->Prop} (k:Q .normal τ)
  (h:p->∀ K':St->Prop,K' τ->ku P (cF P) Mv X G N ops K' ops.toList σ:=by
   intro q K' ao;repeat (refine aM fun Kq af=>?_;simp[q];(repeat refine⟨aa,?_⟩);refine af _ ?_)
   exact bK ao):AW P Mv X G N (.region id ops false) Q σ:=
 eU (aB _) fun K hK=>h q K (hK _ k)
theorem CB {id:Nat} {ops:Array Oper} {Q:Exit->St->Prop} (k:Q .normal τ)
  (h:∀ K':St->Prop,K' τ->ku P (cF P) Mv X G N ops K' ops.toList σ:=by
   intro K' ao;repeat (refine aM fun Kq af=>?_;simp[qf];(repeat refine⟨aa,?_⟩);refine af _ ?_)
   exact bK ao):AW P Mv X G N (.region id ops false) Q σ:=
 eU (aB _) fun K hK=>h K (hK _ k)
theorem fI (r:Nat) {c:Code} {Q:Exit->St->Prop} (k:AW P Mv X G N c Q τ) (hM:Mv r:=by first | trivial | decide) (hn:σ.r0 r=τ:=by simp;rfl):AW P Mv X G N c Q σ:=
 AW.imp (aK.r0 r hM) (hn ▸ k)
theorem dI (q:p) (r:Nat) {c:Code} {Q:Exit->St->Prop} (k:AW P Mv X G N c Q τ) (hM:Mv r:=by first | trivial | decide) (hn:p->σ.r0 r=τ:=by intro q;simp[q];rfl):AW P Mv X G N c Q σ:=
 AW.imp (aK.r0 r hM) (hn q ▸ k)
theorem gw {Q:Exit->St->Prop} (h:Q .ret σ:=by simp[D.le,D.le.go,aL,D.le_refl,D.bJ]):AW P Mv X G N .ret Q σ:=bR h
theorem aW (q:p) {Q:Exit->St->Prop} (h:p->Q .ret σ:=by intro q;simp[D.le,D.le.go,aL,D.le_refl,D.bJ,q]):AW P Mv X G N .ret Q σ:=bR (h q)
theorem cI {e:Env} {H:Heap} {l:List (Nat×AV)} {rows:List (Nat×Row)} (hm:∀ r,(rows.map (·.1)).contains r=false->Mv r:=by first | exact fun _ _=>trivial | exact eh rfl)
  (he:∀ p∈l,(e p.1).map (AV.tr (fF (rows.map (·.1))) (fE (rows.map (·.1))))=some p.2:=by simp)
  (hH:∀ p∈rows,(H p.1).map (Row.tr (fF (rows.map (·.1))) (fE (rows.map (·.1))))=aw rows p.1:=by simp):aK Mv X G N ⟨e,H⟩ ⟨bn l,aw rows⟩:=aK.fk hm he hH
theorem bq (q:p) {e:Env} {H:Heap} {l:List (Nat×AV)} {rows:List (Nat×Row)} (hm:∀ r,(rows.map (·.1)).contains r=false->Mv r:=by first | exact fun _ _=>trivial | exact eh rfl)
  (he:p->∀ p∈l,(e p.1).map (AV.tr (fF (rows.map (·.1))) (fE (rows.map (·.1))))=some p.2:=by intro q;simp[q])
  (hH:p->∀ p∈rows,(H p.1).map (Row.tr (fF (rows.map (·.1))) (fE (rows.map (·.1))))=aw rows p.1:=by intro q;simp[q]):aK Mv X G N ⟨e,H⟩ ⟨bn l,aw rows⟩:=aK.fk hm (he q) (hH q)
end
end Go.Av
namespace Go.Av
def ow (T:Ty) (G:aC) (e:Env) (o:Oper):Option (Prop×D):=match o.op,o.dst with
 | .box _ x,some _=>match (bF G e x).bind jn with
  | some cs=>match lR cs with
   | some ds=>some (True,.ip ds)
   | none=>none
  | none=>none
 | .buildSlice t len parts,some _=>match T t with
  | some tt=>match tt.desc with
   | .slice q=>match T q,mY G e parts.toList with
    | some te,some ps=>match uI te.size 0 ps with
     | some els=>some (ps.length=len/\0 < te.size/\len * te.size<=16777216,.sl none els)
     | none=>none
    | _,_=>none
   | _=>none
  | none=>none
 | .makeSlice t l c,some _=>match T t with
  | some tt=>match tt.desc with
   | .slice q=>match T q,bF G e l,bF G e c with
    | some te,some (.d (.v (.int _ n))),some (.d (.v (.int _ m)))=>some (0<=n/\n<=m/\te.bytes * m<=281474976710656/\m<=9223372036854775807/\0 < te.size/\(kz te.zero).length=te.size,.sl none (qN te n.toNat))
    | _,_,_=>none
   | _=>none
  | none=>none
 | _,_=>none
section
variable {P:Program} {T:Ty} {Mv X:Nat->Prop} {G:aC} {N:Fr} {w:World} {μ:Mu} {a:Act} {σ:St}
theorem nH {o:Oper} {e e':Env} (h:iA o.op e e'):ow T G e o=ow T G e' o:=by
 obtain⟨dst,op,type,pos,after,guard⟩:=o;unfold iA at h;dsimp only at h;unfold ow
 cases op<;>try rfl
 case box t x=>
  cases dst with
  | none=>rfl
  | some d=>
   dsimp only;rw[fm (x:=x) fun t ht=>h t (by simp[Op.operands,ht])]
 case buildSlice t n ps=>
  cases dst with
  | none=>rfl
  | some d=>
   dsimp only;rw[DF (l:=ps.toList) fun t ht=>h t (by simpa[Op.operands]using ht)]
 case makeSlice t x y=>
  cases dst with
  | none=>rfl
  | some d=>
   dsimp only;rw[fm (x:=x) fun t ht=>h t (by simp[Op.operands,ht]),fm (x:=y) fun t ht=>h t (by simp[Op.operands,ht])]
theorem JG (hi:In w X G μ N a σ):¬ XX X μ w.heap.size:=by
 rintro (h | h)
 .exact Nat.lt_irrefl _ (hi.bu.fits _ h)
 .exact Nat.lt_irrefl _ (hi.bu.mg h)
theorem JF (w:World) (cur:Array Value) (t:TypeId) {o:Nat} {v:Value} (h:cur[o]? = some v):(w.alloc (.cells cur t)).cell? ⟨w.heap.size,o,none⟩=some v:=by
 rw[cell_of_row _ w.heap.size o cur t (0,0) (by simpa using heap_alloc_new w (.cells cur t))];exact h
theorem Md (hg:Good P T) (hi:In w X G μ N a σ) {o:Oper} {c:Prop} {y:D} (h:ow T G σ.env o=some (c,y)) (hc:c) :
  ∃ v w',(execOp a.eval o).run P w = .ok (.value v) w'/\In w' X G μ N a σ/\RV w' X μ v (.d y)/\Ev Mv w μ w' μ:=by
 obtain⟨dst,op,type,pos,after,guard⟩:=o;unfold ow at h;dsimp only at h;split at h
 .rename_i t x d;split at h
  .rename_i cs cX;obtain⟨z,hz,he⟩:=agI.1 cX;split at h
   .rename_i ds mv;obtain⟨rfl,rfl⟩:=eo h;have hp:=Ac (hi.eval hz) he;rw[qo mv]at hp;obtain⟨aS,bp⟩:=hi.qA (Mv:=Mv) (cR.alloc w (.cells (a.eval x).cells t));refine⟨.pointer (some ⟨w.heap.size,0,none⟩),_,by simp[execOp,Instr.box,newVar,newRow],aS,.d (.ip (f:=fun j=>(a.eval x).cells.getD j undef) (JG hi) ak (fun j hj=>?_) fun j c hj=>?_),bp⟩
    .have aG:j < (a.eval x).cells.size:=by rw[hp.size];simpa using hj
     exact JF w _ t (by simp[agz,aG])
    .have aG:j < (a.eval x).cells.size:=by rw[hp.size];simpa using (BY.1 hj).1
     have:=(hp.at_ j _ (.d c) (agL aG) (by rw[agC,hj];rfl)).data;rw[agz,agL aG];exact this.ev bp
   .cases h
  .cases h
 .rename_i t len parts d;split at h
  .rename_i tt cL;split at h
   .rename_i q ew;split at h
    .rename_i te ps dh dJ;split at h
     .rename_i els wP;obtain⟨rfl,rfl⟩:=eo h;obtain⟨g2,g3,g4⟩:=hc;obtain⟨hv,hr⟩:=hi.mY dJ;have hu:=hg.dN (w:=w) cL;have bg:=hg.sizeOf (w:=w) dh;have B3:=hg.zero (w:=w) dh
      obtain⟨kY,hf,vc,_,hl,dy,mB⟩:=MA (w:=w) (X:=X) (μ:=μ) (sz:=te.size) ps (parts.toList.map fun p=>(p.1,a.eval p.2)) 0 els ((Array.range (len * te.size)).map ((if len * te.size=0 then #[] else te.zero.cells)[· % (if len * te.size=0 then #[] else te.zero.cells).size]!)) wP hv
       (fun i p v h1 h2=>hr i p v h1 h2) (by simp[g2])
      have hn:¬ len * te.size > 2 ^ 24:=aa
      have e0:∀ f:Nat->Value,(Array.range 0).map f = #[]:=fun f=>by apply Array.ext<;>simp
      have sg:kY.size=len * te.size:=by rw[vc];simp
      have hlen:els.length=len:=aa
      obtain⟨aS,bp⟩:=hi.qA (Mv:=Mv) (cR.alloc w (.cells kY q))
      have dV:(Instr.buildSlice t len (parts.map fun p=>(p.1,a.eval p.2))).run P w = .ok (.slice (some ⟨w.heap.size,0,none⟩) len len) (w.alloc (.cells kY q)):=by
       by_cases h0:len * te.size=0
       .simp only[h0,if_true,e0]at hf;simp only[Instr.buildSlice,Sem.run_bind,hu,ew,Result.andThen_ok,bg,hn,if_false,h0,if_true,Sem.run_pure,e0];simp[hf,newRow]
       .simp only[h0,if_false]at hf;simp only[Instr.buildSlice,Sem.run_bind,hu,ew,Result.andThen_ok,bg,hn,if_false,h0,Sem.run_pure,B3];simp[hf,newRow]
      have lH:len<=maxLen:=by
       have:len<=len * te.size:=Nat.le_mul_of_pos_right _ g3;unfold maxLen;omega
      refine⟨.slice (some ⟨w.heap.size,0,none⟩) len len,_,by simp[execOp,dV],aS,.d ?_,bp⟩;by_cases h0:len=0
      .subst h0;obtain rfl:=agZ hlen;exact .empty ak lH
      .refine .sl (sz:=te.size) (f:=fun i j=>kY.getD (i * te.size+j) undef) ak hlen (agD _) lH (JG hi) dy g3 aa (fun i j e9 hj=>?_) fun i j el c h1 h2=>?_
       .have aG:i * te.size+j < kY.size:=by
         rw[sg];have:(i+1) * te.size<=len * te.size:=agT _ e9;rw[ahh]at this;omega
        rw[ag4];exact JF w _ q (by simp[agz,aG])
       .obtain⟨u,oQ,cf⟩:=mB i j el c h1 h2;rw[ag4]at oQ;rw[agz,oQ];exact cf.ev bp
     .cases h
    .cases h
   .cases h
  .cases h
 .rename_i t l c d;split at h
  .rename_i tt cL;split at h
   .rename_i q ew;split at h
    .rename_i te k1 n k2 m dh hl cG;obtain⟨rfl,rfl⟩:=eo h;obtain⟨h0,h1,h2,h3,hz,ug⟩:=hc;have el:a.eval l = .int k1 n:=(hi.eval hl).scalar;have ec:a.eval c = .int k2 m:=(hi.eval cG).scalar;obtain⟨hu,i0,my,gv,iD,nW,_⟩:=hg q te dh;have ht:=(hg t tt cL).1;rw[ew]at ht;have dV:=run_make (P:=P) w t q i0 te.zero ht my nW k1 k2 n m h0 h1 (by rw[iD];exact h2) h3;rw[gv]at dV;have bg:=size_madeCells te.zero.cells (m.toNat * te.size);obtain⟨aS,bp⟩:=hi.qA (Mv:=Mv) (cR.alloc w (.cells (madeCells te.zero.cells (m.toNat * te.size)) q));refine⟨.slice (some ⟨w.heap.size,0,none⟩) n.toNat m.toNat,_,by simp[execOp,el,ec,dV],aS,.d ?_,bp⟩;by_cases xc:n.toNat=0
     .rw[show qN te n.toNat=[] by rw[xc];rfl,xc];exact .empty ak (by unfold maxLen;omega)
     .have uf:=Af (w:=w) (X:=XX X μ) te.zero
      have cX:te.zero.cells.size=te.size:=by rw[uf.1,ug]
      have zc:∀ i j,i < n.toNat->j < te.size->i * te.size+j < m.toNat * te.size:=fun i j e9 hj=>by
       have:(i+1) * te.size<=m.toNat * te.size:=agT _ aa;rw[ahh]at this;omega
      refine .sl (sz:=te.size) (f:=fun i j=>(madeCells te.zero.cells (m.toNat * te.size)).getD (i * te.size+j) undef) ak (by simp[qN]) aa (by unfold maxLen;omega) (JG hi) (fun el bz=>by rw[List.eq_of_mem_replicate bz,ug]) hz aa (fun i j e9 hj=>?_) fun i j el d bz hd=>?_
      .rw[ag4];exact JF w _ q (by simp[agz,bg,zc i j e9 hj])
      .unfold qN at bz;rw[List.getElem?_replicate]at bz;split at bz
       .rename_i aG;obtain rfl:=AI bz
        have hj:j < te.size:=by rw[<- ug];exact (BY.1 hd).1
        have Bs:j < te.zero.cells.size:=aa
        have hb:=zc i j aG hj
        have jV:(i * te.size+j) % te.size=j:=by rw[Nat.mul_comm,Nat.mul_add_mod,Nat.mod_eq_of_lt hj]
        have hv:(madeCells te.zero.cells (m.toNat * te.size)).getD (i * te.size+j) undef=te.zero.cells[j]:=by
         simp[agz,madeCells,hb,cX,jV];exact getElem!_pos te.zero.cells j Bs
        rw[hv];exact (uf.2 j _ d (by simp[Bs]) hd).ev bp
       .cases bz
    .cases h
   .cases h
  .cases h
 .cases h
variable {ops:Array Oper} {db:List Nat}
def nD (P:Program) (T:Ty) (Mv:Nat->Prop) (G:aC) (N:Fr) (db:List Nat) (i:Nat) (o:Oper) (σ aJ:St):Prop:=
 gP N o/\o.guard=none/\((db.contains i=true/\∃ c y,ow T G σ.env o=some (c,y)/\c/\aJ=⟨aR σ.env o.dst (.d y),σ.H⟩)\/
  (db.contains i=false/\kindOf o.op≠9/\∃ x H',Ex P T Mv G o σ.env σ.H x H'/\aJ=⟨aR σ.env o.dst x,H'⟩))
theorem nD.ok (hg:Good P T) {o:Oper} {i:Nat} {aJ:St} (h:nD P T Mv G N db i o σ aJ) (hi:In w X G μ N a σ) (ho:ops[i]? = some o) {Q:Exit->Act->World->Prop} {K:Act->World->Prop}
  (hk:∀ w' aH a',In w' X G aH N a' aJ->Ev Mv w μ w' aH->K a' w'):wpOpIn (wd N.ro) 0 P ops Q i K a w:=by
 obtain⟨hd,e8,h⟩:=h
 have jI:∀ d,o.dst=some d->d < N.n:=fun d e=>by unfold gP at hd;rw[e]at hd;exact hd
 rcases h with⟨_,c,y,h1,h2,rfl⟩ | ⟨_,h9,x,H',h1,rfl⟩
 .unfold wpOpIn;simp only[ho];rw[x8 hi (lA e8),if_pos rfl];refine Ad (fun c e=>by simp[ow,e]at h1) ?_;obtain⟨v,w',hr,aS,im,bp⟩:=Md (Mv:=Mv) hg hi h1 h2;unfold Oper.wp;rw[hr];exact hk _ μ _ (aS.put im jI) bp
 .exact zZ hg ⟨hd,.inl ⟨lA e8,h1.to⟩⟩ hi ho hk
def yt (db:List Nat) (ops:Array Oper) (i j:Nat) (oi oj:Oper):Bool:=oi.apart ops oj && (db.contains i || db.contains j || uo (kindOf oi.op) (kindOf oj.op))
theorem MB {i j:Nat} {oi oj:Oper} (hc:yt db ops i j oi oj=true) {σ bh iy:St} (h1:nD P T Mv G N db i oi σ bh) (h2:nD P T Mv G N db j oj bh iy) :
  ∃ j1,nD P T Mv G N db j oj σ j1/\nD P T Mv G N db i oi j1 iy:=by
 simp only[yt,abi]at hc;obtain⟨gL,je⟩:=hc;obtain⟨di,gi,h1⟩:=h1;obtain⟨dj,gj,h2⟩:=h2;have fV:∀ v,iA oj.op (aR σ.env oi.dst v) σ.env:=fun v t ht=>(kD gL (e:=σ.env) (v:=v)).1 t (lP ht);have gJ:∀ v,iA oi.op σ.env (aR σ.env oj.dst v):=fun v t ht=>((kD gL (e:=σ.env) (v:=v)).2.1 t (lP ht)).symm;have bl:=(kD gL (e:=σ.env) (v:=dN)).2.2
 rcases h1 with⟨bi,c,y,e1,c1,rfl⟩ | ⟨bi,k1,x,H',e1,rfl⟩
 .rcases h2 with⟨bj,c',z,e2,c2,rfl⟩ | ⟨bj,k2,z,H2,e2,rfl⟩
  .rw[nH (fV _)]at e2;refine⟨⟨aR σ.env oj.dst (.d z),σ.H⟩,⟨dj,gj,.inl ⟨bj,c',z,e2,c2,rfl⟩⟩,di,gi,.inl ⟨bi,c,y,?_,c1,?_⟩⟩
   .rw[<- nH (gJ _)];exact e1
   .rw[iI bl]
  .refine⟨⟨aR σ.env oj.dst z,H2⟩,⟨dj,gj,.inr ⟨bj,k2,z,H2,e2.congr k2 (fV _),rfl⟩⟩,di,gi,.inl ⟨bi,c,y,?_,c1,?_⟩⟩
   .rw[<- nH (gJ _)];exact e1
   .rw[iI bl]
 .rcases h2 with⟨bj,c',z,e2,c2,rfl⟩ | ⟨bj,k2,z,H2,e2,rfl⟩
  .rw[nH (fV _)]at e2;refine⟨⟨aR σ.env oj.dst (.d z),σ.H⟩,⟨dj,gj,.inl ⟨bj,c',z,e2,c2,rfl⟩⟩,di,gi,.inr ⟨bi,k1,x,H',e1.congr k1 (gJ _),?_⟩⟩;rw[iI bl]
  .rw[bi,bj]at je
   have cG:kH ops oi oj=true:=by simp only[kH,abi];exact⟨gL,by simpa using je⟩
   obtain⟨H3,f1,f2⟩:=yq (N:=N) cG ⟨di,.inl ⟨lA gi,e1⟩⟩ ⟨dj,.inl ⟨lA gj,e2⟩⟩ k1 k2
   have un:∀ {o:Oper} {e:Env} {H H':Heap} {x:AV},o.guard=none->Sx P T Mv G N ops o e H x H'->Ex P T Mv G o e H x H':=fun e8 h=>by
    rcases h.2 with⟨_,h⟩ | ⟨hw,_⟩
    .exact h
    .rw[lA e8]at hw;cases hw
   refine⟨⟨aR σ.env oj.dst z,H3⟩,⟨dj,gj,.inr ⟨bj,k2,z,H3,un gj f1,rfl⟩⟩,di,gi,.inr ⟨bi,k1,x,H2,un gi f2,?_⟩⟩;rw[iI bl]
def Q5 (P:Program) (T:Ty) (Mv:Nat->Prop) (G:aC) (N:Fr) (db:List Nat) (ops:Array Oper):List Nat->St->St->Prop:=iJ (nD P T Mv G N db) ops
def JR (db:List Nat) (ord:List Nat) (ops:Array Oper):Bool:=qP (yt db ops) ord ops
def FO (P:Program) (T:Ty) (Mv:Nat->Prop) (G:aC) (N:Fr) (db:List Nat) (i:Nat) (o:Oper) (σ:St) (K:St->Prop):Prop:=gP N o/\o.guard=none/\
 if db.contains i=true then (match ow T G σ.env o with
  | some (c,y)=>c/\K ⟨aR σ.env o.dst (.d y),σ.H⟩
  | none=>False)
 else kindOf o.op≠9/\match ey o.op with
  | some c=>qt P G c σ.env o.dst σ.H [] [] K
  | none=>vA T G Mv o σ [] K
def sG (P:Program) (T:Ty) (Mv:Nat->Prop) (G:aC) (N:Fr) (db:List Nat) (K:St->Prop):List (Nat×Oper)->St->Prop
 | [],σ=>K σ
 | (i,o) :: rest,σ=>FO P T Mv G N db i o σ (sG P T Mv G N db K rest)
theorem aea {K:St->Prop}:∀ (l:List Nat) (σ:St),(∀ i∈l,i < ops.size)->sG P T Mv G N db K (cU ops l) σ->∃ cJ,K cJ/\Q5 P T Mv G N db ops l σ cJ:=by
 intro l
 induction l with
 | nil=>intro σ _ h;exact⟨σ,h,rfl⟩
 | cons i l ih=>
  intro σ hl h;have hi:=hl i ak
  have ho:ops[i]? = some ops[i]:=by simp[hi]
  simp only[cU,ho]at h;generalize ops[i]=o at ho h;simp only[sG,FO]at h;obtain⟨hd,e8,h⟩:=h
  have fin:∀ bh,nD P T Mv G N db i o σ bh->sG P T Mv G N db K (cU ops l) bh->∃ cJ,K cJ/\Q5 P T Mv G N db ops (i :: l) σ cJ:=fun bh hs h1=>by
   obtain⟨cJ,hk,hr⟩:=ih bh (fun j hj=>hl j (by simp[hj])) h1;exact⟨cJ,hk,o,ho,bh,hs,hr⟩
  split at h
  .rename_i hb;split at h
   .rename_i c y hw;obtain⟨hc,h⟩:=h;exact fin _ ⟨hd,e8,.inl ⟨hb,c,y,hw,hc,rfl⟩⟩ h
   .exact h.elim
  .rename_i hb
   have hb:db.contains i=false:=by simpa using hb
   obtain⟨hk,h⟩:=h;split at h
   .rename_i c hc;obtain⟨y,g,ds,ht,hp,ij,h⟩:=h;refine fin _ ⟨hd,e8,.inr ⟨hb,hk,.d y,σ.H,?_,rfl⟩⟩ h;unfold Ex;simp only[hc];exact⟨y,⟨g,_,ht,.inl ⟨ds,rfl,hp⟩⟩,rfl,trivial⟩
   .rename_i hc;unfold vA at h;split at h
    .rename_i hw;split at h
     .rename_i c x bh h1;obtain⟨cG,ij,h⟩:=h;have he:=Ae hk h1;obtain⟨e,H⟩:=σ;obtain⟨e1,H1⟩:=bh;dsimp only at he;subst he;refine fin _ ⟨hd,e8,.inr ⟨hb,hk,x,H1,?_,rfl⟩⟩ h;unfold Ex;simp only[hc];rw[if_pos hw];exact⟨c,h1,cG⟩
     .exact h.elim
    .rename_i hw;split at h
     .rename_i c x h1;obtain⟨cG,ij,h⟩:=h;refine fin _ ⟨hd,e8,.inr ⟨hb,hk,x,σ.H,?_,rfl⟩⟩ h;unfold Ex;simp only[hc];rw[if_neg hw];exact⟨c,h1,cG,trivial⟩
     .exact h.elim
theorem Lh (hg:Good P T) (hm:P.follows .mixedOrders=true) (db:List Nat) (ord:List Nat) {id:Nat} (cz:JR db ord ops=true) {Q:Exit->St->Prop} {σ:St} (h:sG P T Mv G N db (fun aJ=>Q .normal aJ) (cU ops ord) σ):AW P Mv X G N (.region id ops true) Q σ:=ye (Step:=nD P T Mv G N db) (cp:=yt db ops) hm (fun i o ho σ aJ h w μ a hi _ _ hk=>nD.ok hg h hi ho hk) (fun i j oi oj _ _ hc σ bh iy h1 h2=>MB hc h1 h2) ord cz fun aG=>aea ord σ aG h
theorem yc (hg:Good P T) (hm:P.follows .mixedOrders=true) (db:List Nat) (ord:List Nat) (l ns:List Nat) (hM:∀ r,ns.contains r=false->Mv r) {id:Nat} (cz:JR db ord ops=true) {y:Code} {Q:Exit->St->Prop} {σ:St}
  (h:∀ K:St->Prop,(∀ τ:St,AW P Mv X G N y Q (τ.norm l ns)->K τ)->sG P T Mv G N db K (cU ops ord) σ):AW P Mv X G N (.seq (.region id ops true) y) Q σ:=
 sN (Lh hg hm db ord cz (h _ fun _ h=>h.norm l ns hM))
theorem SD (hg:Good P T) (hm:P.follows .mixedOrders=true) (db:List Nat) (ord:List Nat) {id:Nat} (cz:JR db ord ops=true) {Q:Exit->St->Prop} {σ:St}
  (h:∀ K:St->Prop,(∀ τ:St,Q .normal τ->K τ)->sG P T Mv G N db K (cU ops ord) σ):AW P Mv X G N (.region id ops true) Q σ:=Lh hg hm db ord cz (h _ fun _ h=>h)
theorem uB {K:St->Prop} {i:Nat} {l:List Nat} {o:Oper} (ho:ops[i]? = some o) (h:∀ K':St->Prop,(∀ τ,sG P T Mv G N db K (cU ops l) τ->K' τ)->FO P T Mv G N db i o σ K'):sG P T Mv G N db K (cU ops (i :: l)) σ:=by
 have:cU ops (i :: l)=(i,o) :: cU ops l:=by simp[cU,ho]
 rw[this];exact h _ fun _ h=>h
theorem x6 {K:St->Prop} (h:K σ):sG P T Mv G N db K (cU ops []) σ:=h
end
attribute [simp] FO ow
end Go.Av
namespace Go.Av
def OQ:Op->Bool
 | .insert _ _ _ _=>true
 | _=>false
def PX (G:aC) (e:Env) (o:Op) (r:Nat):Prop:=match o with
 | .insert _ m _ _=>bF G e m=some (.mp r)
 | _=>False
def R7 (G:aC) (fp:List (Nat×Nat)) (e:Env) (i:Nat) (o:Op):Prop:=match fp.lookup i with
 | some r=>if OQ o=true then PX G e o r else vy G e o r
 | none=>True
section
variable {P:Program} {T:Ty} {Mv X:Nat->Prop} {G:aC} {N:Fr} {ops:Array Oper} {fp:List (Nat×Nat)} {cn:List Nat}
variable {cl:List (Nat×AV)}
def Vu (P:Program) (G:aC) (cl:List (Nat×AV)) (i:Nat) (c:Call) (σ:St) (dst:Option Tmp) (next:St->Prop):Prop:=∃ y,cl.lookup i=some (.d y)/\(∀ H2,As P G ⟨σ.env,H2⟩ c y)/\next ⟨aR σ.env dst (.d y),σ.H⟩
def RM (P:Program) (T:Ty) (Mv:Nat->Prop) (G:aC) (N:Fr) (ops:Array Oper) (fp:List (Nat×Nat)) (cn:List Nat) (cl:List (Nat×AV)) (i:Nat) (o:Oper) (σ:St) (K:St->Prop):Prop:=gP N o/\kindOf o.op≠9/\match jM ops σ.env o with
 | some b=>if b=true then R7 G fp σ.env i o.op/\(match ey o.op with
  | some c=>Vu P G cl i c σ o.dst K
  | none=>cn.contains i=false/\qh T G Mv o σ K) else K ⟨aR σ.env o.dst dN,σ.H⟩
 | none=>False
attribute [simp] RM R7 OQ PX
end
end Go.Av
namespace Go.Av
def SO (P:Program) (t:TypeId) (name:String) (g:FuncId):Prop:=∀ (v:Value) (w:World),(invoke (.fn (.method name) #[]) #[.iface t v]).run P w = .ok (.enter g #[v]) w
def OP:Op->Option (Operand×String)
 | .call { callee:=.invoke r name,args:=az,argTypes:=_ }=>if az.isEmpty then some (r,name) else none
 | _=>none
def ad1 (P:Program) (T:Ty) (Mv X:Nat->Prop) (G:aC) (N:Fr) (ops:Array Oper) (o:Oper) (σ:St) (K:St->Prop):Prop:=gP N o/\match jM ops σ.env o with
 | some b=>if b=true then (match OP o.op with
  | some (r,name)=>∃ t x g,bF G σ.env r=some (.d (.bZ t x))/\SO P t name g/\dT P Mv X G N g [.d x] σ o.dst K
  | none=>mZ P T Mv X G N o σ K) else K ⟨aR σ.env o.dst dN,σ.H⟩
 | none=>False
section
variable {P:Program} {T:Ty} {Mv X:Nat->Prop} {G:aC} {N:Fr} {w:World} {μ:Mu} {a:Act} {σ:St}
attribute [simp] ad1 OP mZ
end
