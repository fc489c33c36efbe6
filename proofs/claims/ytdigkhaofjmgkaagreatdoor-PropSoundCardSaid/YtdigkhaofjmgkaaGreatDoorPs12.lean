/- Parts. -/
import Derived.Test.YtdigkhaofjmgkaaGreatDoorPs10
import Derived.Lib.SlTrimSet
set_option linter.unusedSimpArgs false
set_option linter.unusedVariables false
namespace Go.Proofs.YtdigkhaofjmgkaaGreatDoor
def ll:List UInt8:=[97,98,99,100,101,102,103,104,105,106,107,108,109,110,111,112,113,114,115,116,117,118,119,120,121,122,48,49,50,51,52,53,54,55,56,57,95]
def JI:List (List UInt8):=[[105,110,112,117,116],[99,111,105,108],[116,105,109,101,114],[99,111,117,110,116,101,114],[115,101,116],[114,101,115,101,116],[114,117,110],[99,111,117,110,116],[122,101,114,111]]
def eS (l:List UInt8):Bool:=decide (l≠[]) && (decide (l.length<=8) && (decide (97<=(l.getD 0 0).toNat) && (decide ((l.getD 0 0).toNat<=122) && (decide (Lib.trimS l ll=[]) && !(JI.any fun x=>l == x)))))
theorem dropWhile_nil {p:UInt8->Bool}:∀ {l:List UInt8},l.dropWhile p=[]↔∀ x∈l,p x=true
 | []=>by simp
 | x :: l=>by
  rw[List.dropWhile_cons];split
  .rename_i h;rw[dropWhile_nil];simp[h]
  .rename_i h;simp[h]
theorem D9 {p:UInt8->Bool}:∀ {l:List UInt8} {x:UInt8} {r:List UInt8},l.dropWhile p=x :: r->p x=false
 | [],_,_,h=>by simp at h
 | y :: l,x,r,h=>by
  rw[List.dropWhile_cons]at h;split at h
  .exact D9 h
  .rename_i hp;simp only[List.cons.injEq]at h;rw[<- h.1];simpa using hp
theorem Jt {l cs:List UInt8}:Lib.trimS l cs=[]↔∀ x∈l,cs.contains x=true:=by
 unfold Lib.trimS Lib.trimLeftS Lib.trimRightS;rw[dropWhile_nil];constructor
 .intro h
  have hr:l.reverse.dropWhile (cs.contains ·)=[]:=by
   cases hd:l.reverse.dropWhile (cs.contains ·) with
   | nil=>rfl
   | cons x r=>
    have h1:=D9 hd;have h2:=h x (by rw[hd];simp);rw[h1]at h2;cases h2
  rw[dropWhile_nil]at hr;exact fun x hx=>hr x (by simpa using hx)
 .intro h x hx;rw[List.mem_reverse]at hx;exact h x (by simpa using (List.dropWhile_sublist _).subset hx)
