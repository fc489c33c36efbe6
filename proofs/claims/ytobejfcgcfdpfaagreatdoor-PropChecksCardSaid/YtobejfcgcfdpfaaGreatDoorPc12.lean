/- Parts. -/
import Derived.Test.YtobejfcgcfdpfaaGreatDoorPc10
import Derived.Lib.SlTrimSet
set_option linter.unusedSimpArgs false
set_option linter.unusedVariables false
namespace Go.Proofs.YtobejfcgcfdpfaaGreatDoor
def rp:List UInt8:=[97,98,99,100,101,102,103,104,105,106,107,108,109,110,111,112,113,114,115,116,117,118,119,120,121,122,48,49,50,51,52,53,54,55,56,57,95]
def nN:List (List UInt8):=[[105,110,112,117,116],[99,111,105,108],[116,105,109,101,114],[99,111,117,110,116,101,114],[115,101,116],[114,101,115,101,116],[114,117,110],[99,111,117,110,116],[122,101,114,111]]
def pI (c:UInt8):Bool:=decide (97<=c.toNat) && decide (c.toNat<=122)
def qU (c:UInt8):Bool:=(decide (48<=c.toNat) && decide (c.toNat<=57)) || decide (c.toNat=95)
def iU (j:Nat) (c:UInt8):Bool:=pI c || (decide (j≠0) && qU c)
def jQ (l:List UInt8):Bool:=decide (l≠[]) && (decide (l.length<=8) && (decide (97<=(l.getD 0 0).toNat) && (decide ((l.getD 0 0).toNat<=122) && (decide (Lib.trimS l rp=[]) && !(nN.any fun x=>l == x)))))
def tT (l:List UInt8) (n:Nat):Bool:=(List.range n).all fun j=>iU j (l.getD j 0)
def s7 (l:List UInt8):Bool:=tT l l.length && (!(([] :: nN).any fun x=>l == x) && decide (l.length<=8))
theorem QX (c:UInt8):rp.contains c=(pI c || qU c):=by
 have h:∀ n:Fin 256,rp.contains (UInt8.ofNat n)=(pI (UInt8.ofNat n) || qU (UInt8.ofNat n)):=by decide +kernel
 have:=h ⟨c.toNat,c.toNat_lt⟩;simpa using this
theorem dropWhile_nil {p:UInt8->Bool}:∀ {l:List UInt8},l.dropWhile p=[]↔∀ x∈l,p x=true
 | []=>ak
 | x :: l=>by
  rw[List.dropWhile_cons];split
  .rename_i h;rw[dropWhile_nil];simp[h]
  .rename_i h;simp[h]
theorem Q4 {p:UInt8->Bool}:∀ {l:List UInt8} {x:UInt8} {r:List UInt8},l.dropWhile p=x :: r->p x=false
 | [],_,_,h=>by simp at h
 | y :: l,x,r,h=>by
  rw[List.dropWhile_cons]at h;split at h
  .exact Q4 h
  .rename_i hp;simp only[anV]at h;rw[<- h.1];simpa using hp
theorem XH {l cs:List UInt8}:Lib.trimS l cs=[]↔∀ x∈l,cs.contains x=true:=by
 unfold Lib.trimS Lib.trimLeftS Lib.trimRightS;rw[dropWhile_nil];constructor
 .intro h
  have hr:l.reverse.dropWhile (cs.contains ·)=[]:=by
   cases hd:l.reverse.dropWhile (cs.contains ·) with
   | nil=>rfl
   | cons x r=>
    have h1:=Q4 hd;have h2:=h x (by rw[hd];simp);rw[h1]at h2;cases h2
  rw[dropWhile_nil]at hr;exact fun x hx=>hr x (by simpa using hx)
 .intro h x hx;rw[List.mem_reverse]at hx;exact h x (by simpa using (List.dropWhile_sublist _).subset hx)
theorem Va (l:List UInt8):jQ l=s7 l:=by
 cases l with
 | nil=>rfl
 | cons a l=>
  have hw:(([] :: nN).any fun x=>(a :: l) == x)=nN.any fun x=>(a :: l) == x:=ak
  unfold jQ s7;rw[hw]
  have key:(decide (97<=a.toNat) && (decide (a.toNat<=122) && decide (Lib.trimS (a :: l) rp=[])))=tT (a :: l) (a :: l).length:=by
   rw[Bool.eq_iff_iff];simp only[OF,decide_eq_true_eq,XH,tT,ane,anA];constructor
   .rintro⟨h1,h2,h3⟩ j hj
    have hm:(a :: l).getD j 0∈a :: l:=by
     rw[ame,AT hj];exact By hj
    have:=h3 _ hm;rw[QX]at this;unfold iU
    cases j with
    | zero=>simp[pI,h1,h2]
    | succ j=>simpa using this
   .intro h;have h0:=h 0 ak;simp[iU,pI]at h0;refine⟨h0.1,h0.2,fun x hx=>?_⟩;obtain⟨j,hj,rfl⟩:=List.getElem_of_mem hx;have:=h j hj;rw[ame,AT hj]at this;rw[QX];unfold iU at this;simp only[anM,amU,OF]at this ⊢
    rcases this with h | h
    .exact .inl h
    .exact .inr h.2
  rw[<- key];simp only[List.getD_cons_zero,ne_eq,reduceCtorEq,not_false_eq_true,decide_true,Bool.true_and];cases decide ((a :: l).length<=8)<;>cases decide (97<=a.toNat)<;>cases decide (a.toNat<=122)<;>cases decide (Lib.trimS (a :: l) rp=[])<;>cases (nN.any fun x=>(a :: l) == x)<;>rfl
