/- Plain facts: the lines of a pattern, as the reference counts them; the facts about the lattices of an index up to 64 and the eight reflections are found by trying all. -/
import Derived.Test.YteheolldcpjkcaaGreatDoorQtMA
namespace Go.Proofs.YteheolldcpjkcaaGreatDoor.X
open Go
set_option linter.unusedSimpArgs false
set_option linter.unusedVariables false
abbrev Et:=Mt×Vc×Vc×Int×Int
def Ap3:List Et:=[((-1,0,0,1),(0,1),(1,0),0,2),((0,-1,-1,0),(1,-1),(1,1),1,-1),((0,1,1,0),(1,1),(1,-1),1,1),((1,0,0,-1),(1,0),(0,1),2,0),((-1,-1,0,1),(1,-2),(1,0),0,-1),((-1,0,1,1),(0,1),(2,-1),1,2),((1,0,-1,-1),(2,-1),(0,1),1,0),((1,1,0,-1),(1,0),(1,-2),2,1)]
def kS (l:Lt) (v:Vc):Nat→Nat→Nat
 | 0,k=>k
 | n+1,k=>bif As l (A5 k v)==(0,0) then k else kS l v n (k+1)
def Alu (l:Lt) (a b:Vc):Bool:=((Hb (A5 (kS l a 64 1) a) (A5 (kS l b 64 1) b)).natAbs:Int) != l.1*l.2.2
def AoP (l:Lt) (a b:Vc):Nat:=bif Alu l a b then kS l a 64 1 else 2*kS l a 64 1
def Ap4 (l:Lt) (e:Et):Bool:=!BJ l e.1||(gI (e.2.2.2.1*l.1+e.2.2.2.2*0) (e.2.2.2.1*l.2.1+e.2.2.2.2*l.2.2)==(AoP l e.2.1 e.2.2.1:Int))
def Agq (a:Nat):List Lt:=(List.range (64 / a)).flatMap fun c=>(List.range a).map fun (b:Nat)=>((a:Int),(b:Int),((c+1:Nat):Int))
def Ap5 (a:Nat):Bool:=(Agq a).all fun l=>Ap3.all (Ap4 l)
theorem AcM {l:Lt} (hl:IsL l):l∈Agq l.1.toNat:=by
 obtain⟨a1,a2,c1,c2,b1,b2,ix⟩:=hl;unfold Agq;simp only[ArH,Aq6,Ar8];refine⟨l.2.2.toNat-1,?_,l.2.1.toNat,by omega,?_⟩
 ·rw[Nat.lt_div_iff_mul_lt (by omega)]
  have h1:((l.1.toNat*l.2.2.toNat:Nat):Int)=l.1*l.2.2:=BB ⟨a1,a2,c1,c2,b1,b2,ix⟩;have h2:(l.2.2.toNat-1)*l.1.toNat=l.1.toNat*l.2.2.toNat-l.1.toNat:=by
   rw[Nat.sub_mul,Nat.one_mul,AsK]
  have h3:l.1.toNat*1≤l.1.toNat*l.2.2.toNat:=Ar4 _ (by omega)
  omega
 ·refine Prod.ext (by simp;omega) (Prod.ext (by simp;omega) (by simp only;omega))
theorem Aky (l:Lt) (v:Vc):∀ n k,k≤kS l v n k∧kS l v n k≤k+n
 | 0,k=>by simp[kS]
 | n+1,k=>by
  simp only[kS];have:=Aky l v n (k+1);cases As l (A5 k v)==(0,0)<;>simp<;>omega
theorem Iw {l:Lt} (hl:IsL l) {v:Vc} (h1 : -3≤v.1∧v.1≤3) (h2 : -3≤v.2∧v.2≤3):∀ (n n' k:Nat),k≤l.1.toNat*l.2.2.toNat→l.1.toNat*l.2.2.toNat-k<n→l.1.toNat*l.2.2.toNat-k≤n'→Ea KK l v n (A5 k v).1 (A5 k v).2=some (A5 (kS l v n' k) v)
 | 0,n',k,_,hn,_=>by omega
 | n+1,n',k,hk,hn,hn'=>by
  have hix:=BB hl;have h64:=hl.ix;have hb:=Dg h1 h2 (k:=k) (by omega)
  have hb2:=Dg h1 h2 (k:=k+1) (by omega)
  have e:Ea KK l v (n+1) (A5 k v).1 (A5 k v).2=Il KK l v (fun v0 v1=>Ea KK l v n v0 v1) (A5 k v).1 (A5 k v).2:=rfl;rw[e];unfold Il Hg;rw[LC hl (v:=((A5 k v).1,(A5 k v).2)) (by simp only[Sm];omega)]
  simp only[oB];cases hr:(As l ((A5 k v).1,(A5 k v).2)==(0,0))
  ·simp only[nF,cT];have hne:k≠l.1.toNat*l.2.2.toNat:=by
    intro h;rw[bN] at hr
    apply hr
    rw[h];exact XF hl v
   have hs:=NZ k v;rw[Asv] at hs;simp only at hs;rw[Ay (n:=(A5 k v).1+v.1) (by omega) (by omega),Ay (n:=(A5 k v).2+v.2) (by omega) (by omega),hs.1,hs.2]
   obtain⟨n2,rfl⟩:∃ n2,n'=n2+1:=⟨n'-1,by omega⟩
   rw[Iw hl h1 h2 n n2 (k+1) (by omega) (by omega) (by omega)]
   simp only[kS];rw[show (As l (A5 k v)==(0,0))=false from hr,cF]
  ·match n' with
   | 0=>rfl
   | n2+1 =>
    simp only[kS];rw[show (As l (A5 k v)==(0,0))=true from hr]
    rfl
theorem Eo {l:Lt} (hl:IsL l) {v:Vc} (h1 : -3≤v.1∧v.1≤3) (h2 : -3≤v.2∧v.2≤3):Hh KK l v=some (A5 (kS l v 64 1) v):=by
 unfold Hh PW;have hix:=BB hl;have h64:=hl.ix;have h0:0<l.1*l.2.2:=Atw (by have:=hl.a1;omega) (by have:=hl.c1;omega)
 have e:(A5 1 v)=v:=by simp[A5]
 have:=Iw hl h1 h2 KK 64 1 (by omega) (by have:=B4 (n:=l.1.toNat*l.2.2.toNat) (by omega);omega) (by omega)
 rw[e] at this;exact this
theorem AcN (l:Lt) (v:Vc):1≤kS l v 64 1∧kS l v 64 1≤65:=by
 have:=Aky l v 64 1;omega
theorem Ux {a b:Vc} (h1 : -210≤a.1∧a.1≤210∧-210≤a.2∧a.2≤210) (h2 : -210≤b.1∧b.1≤210∧-210≤b.2∧b.2≤210):w ((w (a.1*b.2))-(w (a.2*b.1)))=Hb a b∧(Hb a b).natAbs≤1000000:=by
 have m1:(a.1*b.2).natAbs≤210*210:=by rw[Ar9];exact Asj (by omega) (by omega)
 have m2:(a.2*b.1).natAbs≤210*210:=by rw[Ar9];exact Asj (by omega) (by omega)
 unfold Hb;rw[Aq5 b.1 a.2,Ay (n:=a.1*b.2) (by omega) (by omega),Ay (n:=a.2*b.1) (by omega) (by omega),Ay (by omega) (by omega)]
 exact⟨rfl,by omega⟩
theorem XG {l:Lt} (hl:IsL l) {m:Mt} (hm:SmM m) (hr:Rf m):Gb l m=Alu l (axS m) (axS (EH m)):=by
 have b1:=Dg hr.x1 hr.x2 (k:=kS l (axS m) 64 1) (by have:=AcN l (axS m);omega)
 have b2:=Dg hr.y1 hr.y2 (k:=kS l (axS (EH m)) 64 1) (by have:=AcN l (axS (EH m));omega)
 obtain⟨c1,c2⟩:=Ux b1 b2;have h64:=Sn hl.a1 hl.a2 hl.c1 hl.c2;unfold Gb F3 Xs RR;rw[hr.ax,oB,Eo hl hr.x1 hr.x2,oB,hr.ng,oB,hr.an,oB,Eo hl hr.y1 hr.y2];simp only[oB];rw[c1,Lw (by omega),Ay (n:=l.1*l.2.2) (by omega) (by omega)]
 rfl
end Go.Proofs.YteheolldcpjkcaaGreatDoor.X
