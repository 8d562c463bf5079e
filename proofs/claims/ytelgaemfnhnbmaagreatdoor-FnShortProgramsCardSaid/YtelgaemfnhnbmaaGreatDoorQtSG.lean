/- Reading numbers between commas: both sides read the same vectors, lattices, matrices and motions. -/
import Derived.Test.YtelgaemfnhnbmaaGreatDoorQtSR
import Derived.Test.YtelgaemfnhnbmaaGreatDoorQtSE
namespace Go.Proofs.YtelgaemfnhnbmaaGreatDoor.X
open Go
set_option linter.unusedSimpArgs false
set_option linter.unusedVariables false
theorem itoa_big {n:Int} (h:10<(unm (Lib.itoa n)).length):10000000000≤n.natAbs:=by
 rcases Nat.lt_or_ge n.natAbs 10000000000 with hc | hc
 ·exfalso;have e10:(10:Nat) ^ (9+1)=10000000000:=by decide
  by_cases hn:n<0
  ·obtain⟨k,rfl⟩:∃ k:Nat,n = -(k:Int):=⟨n.natAbs,by omega⟩
   rw[Lib.itoa_neg k (by omega)] at h
   simp only[unm,if_true] at h;have:=dec_lt 9 k (by omega)
   omega
  ·obtain⟨k,rfl⟩:∃ k:Nat,n=(k:Int):=⟨n.toNat,by omega⟩
   rw[Lib.itoa_nonneg] at h;have hl:∀ l:List UInt8,(unm l).length≤l.length:=fun l=>by
    cases l with
    | nil=>simp[unm]
    | cons b r =>
     simp only[unm];split<;>simp
   have h1:=hl (Lib.decDigits k);have:=dec_lt 9 k (by omega)
   omega
 ·exact hc
theorem num_eq2 {l:List UInt8} (h:l.length≤1048576):∃ n b,f233G KK (mk l)=some (n,b)∧(b=true→rd l=some n∨(rd l=none∧10000000000≤n.natAbs))∧(b=false→rd l=none):=by
 unfold f233G;have h0:l.length≤140737488355328:=by omega
 obtain⟨n,b,e,h1,h2⟩:=num_eq h0;refine⟨n,b,e,fun hb=>?_,fun hb=>?_⟩
 ·cases hr:rd l with
  | some v =>
   left;rw[(h2 v hr).1]
  | none =>
   right;refine⟨rfl,?_⟩;have hlen:¬ (unm l).length≤10:=fun hle=>by
    have:=h1.1 (by rw[hb,dT hle];rfl)
    rw[hr] at this;cases this
   have hl:Lib.itoa n=l:=by
    unfold numF at e;rw[mk_size,show Nat.ble l.length 140737488355328=true by rw[Nat.ble_eq];exact h0,cT,mk_list] at e
    split at e
    ·simp only[Option.some.injEq,Prod.mk.injEq] at e;obtain⟨rfl,e⟩:=e;rw[hb] at e;have e:(mk (Lib.itoa _)==mk l)=true:=e;rw[mk_beq,dE] at e;exact e
    ·simp only[Option.some.injEq,Prod.mk.injEq] at e;rw[hb] at e;exact absurd e.2 (by simp)
    ·simp only[Option.some.injEq,Prod.mk.injEq] at e;rw[hb] at e;exact absurd e.2 (by simp)
   exact itoa_big (by rw[hl];omega)
 ·cases hr:rd l with
  | none=>rfl
  | some v =>
   have:=(h2 v hr).2;rw[hb] at this;cases this
theorem rds_cons (x:List UInt8) (r:List (List UInt8)):rds (x :: r)=match rd x,rds r with | some v,some vs=>some (v :: vs) | _,_=>none:=rfl
theorem parted_loop {ws:List (List UInt8)} (hw:∀ x∈ws,x.length≤1048576) (hn:ws.length≤1048577) {a0 a1:ByteArray} {a2:Int}:∀ (n i:Nat) (out:List Int),i≤ws.length→out.length=i→ws.length-i<n →
  ∃ r b,f195_l4 KK a0 a1 a2 (ws.map mk) n (i:Int) out=some (r,b)∧(b=true→∃ vs,r=out++vs∧vs.length=ws.length-i∧(rds (ws.drop i)=some vs∨(rds (ws.drop i)=none∧∃ v∈vs,10000000000≤v.natAbs)))∧(b=false→rds (ws.drop i)=none)
 | 0,i,_,_,_,h=>by omega
 | n+1,i,out,hi,ho,h=>by
  show ∃ r b,f195_b4 KK a0 a1 a2 (ws.map mk) (fun v0 v1=>f195_l4 KK a0 a1 a2 (ws.map mk) n v0 v1) (i:Int) out=some (r,b)∧_;unfold f195_b4;rw[len_map];by_cases hlt:i<ws.length
  ·obtain⟨v,b0,e,h1,h2⟩:=num_eq2 (hw _ (gM hlt));rw[in1 hlt,in0,gd_map hlt,e];simp only[aS,cT,oB];rw[dC hlt,rds_cons];cases hb0:b0
   ·rw[h2 hb0];exact⟨[],false,rfl,(fun h=>by cases h),fun _=>rfl⟩
   ·simp only[nT,cF];rw[blim8 (by simp;omega),cT,w_succ (by omega)]
    obtain⟨r,b,e3,h3,h4⟩:=parted_loop hw hn (a0:=a0) (a1:=a1) (a2:=a2) n (i+1) (out++[v]) (by omega) (by simp;omega) (by omega)
    refine⟨r,b,e3,fun hb=>?_,fun hb=>?_⟩
    ·obtain⟨vs,k1,k2,k3⟩:=h3 hb;refine⟨v :: vs,by rw[k1,List.append_assoc];rfl,by rw[List.length_cons];omega,?_⟩
     rcases h1 hb0 with hr | ⟨hr,hbig⟩
     ·rw[hr];rcases k3 with k3 | ⟨k3,x,hx,hxb⟩
      ·rw[k3];exact .inl rfl
      ·rw[k3];exact .inr ⟨rfl,x,List.mem_cons_of_mem _ hx,hxb⟩
     ·rw[hr];exact .inr ⟨rfl,v,List.mem_cons_self ..,hbig⟩
    ·rw[h4 hb];cases rd ws[i]<;>rfl
  ·have:i=ws.length:=by omega
   subst this;rw[out1,cF,List.drop_length];exact⟨out,true,rfl,fun _=>⟨[],by simp,by simp,.inl rfl⟩,fun h=>by cases h⟩
theorem spa44 {l:List UInt8} (h:l.length≤1048576):(∀ x∈spa 44 [] l,x.length≤1048576)∧(spa 44 [] l).length≤1048577:=by
 refine⟨fun x hx=>?_,?_⟩
 ·have:=spa_size 44 l [] x hx;simp only[List.length_nil] at this;omega
 ·have:=spa_len 44 l [];omega
theorem parted_eq {l:List UInt8} (h:l.length≤1048576) (k:Nat):∃ r b,f195G KK (mk l) (bs [44]) (k:Int)=some (r,b)∧(b=true→r.length=k∧(rds (spa 44 [] l)=some r∨(rds (spa 44 [] l)=none∧∃ v∈r,10000000000≤v.natAbs)))∧(b=false→(spa 44 [] l).length≠k∨rds (spa 44 [] l)=none):=by
 obtain⟨h1,h2⟩:=spa44 h;unfold f195G f195_g f85G;have e44:bs [44]=mk [44]:=rfl;rw[e44,splitF_eq (by omega),oB,len_map]
 by_cases hk:(spa 44 [] l).length=k
 ·have:(((spa 44 [] l).length:Int) != (k:Int))=false:=by rw[hk];simp
  rw[this,cF];obtain⟨r,b,e,k1,k2⟩:=parted_loop h1 h2 (a0:=mk l) (a1:=mk [44]) (a2:=(k:Int)) KK 0 [] (Nat.zero_le _) rfl (by simp only[KK];omega)
  refine⟨r,b,e,fun hb=>?_,fun hb=>.inr (k2 hb)⟩;obtain⟨vs,e1,e2,e3⟩:=k1 hb;rw[List.nil_append] at e1;subst e1;exact⟨by omega,e3⟩
 ·have:(((spa 44 [] l).length:Int) != (k:Int))=true:=by
   rw[bne_iff_ne];omega
  rw[this,cT];exact⟨[],false,rfl,(fun h=>by cases h),fun _=>.inl hk⟩
def rdV (l:List UInt8):Option Vc:=match rds (spa 44 [] l) with
 | some [x,y]=>if vecB (x,y) then some (x,y) else none
 | _=>none
def orV (o:Option Vc):Vc×Bool:=match o with | some v=>(v,true) | none=>((0,0),false)
theorem vec_small {x y:Int} (h:vecB (x,y)=true):x.natAbs≤1000∧y.natAbs≤1000:=by
 obtain⟨a,b⟩:=vecB_iff.1 h;simp only at a b;omega
theorem implRV {l:List UInt8} (h:l.length≤1048576):f227G KK (mk l)=some (orV (rdV l)):=by
 obtain⟨r,b,e,h1,h2⟩:=parted_eq h 2;unfold f227G rdV;have e:f195G KK (mk l) (bs [44]) (2:Int)=some (r,b):=e;rw[e,oB];cases hb:b
 ·simp only[nF,nT,cT,cF,oT,tO,oB];rcases h2 hb with h3 | h3
  ·cases hr:rds (spa 44 [] l) with
   | none=>rfl
   | some vs =>
    have hl:=rds_len hr
    match vs,hl with
    | [],_=>rfl
    | [_],_=>rfl
    | [_,_],hl=>exact absurd hl.symm h3
    | _ :: _ :: _ :: _,_=>rfl
  ·rw[h3];rfl
 ·obtain⟨h3,h4⟩:=h1 hb;obtain⟨x,y,rfl⟩:∃ x y,r=[x,y]:=by
   match r,h3 with
   | [x,y],_=>exact⟨x,y,rfl⟩
  simp only[nT,nF,cT,cF,oT,tO];rw[show (decide (0≤(0:Int))&&decide ((0:Int)<(([x,y]:List Int).length:Int)))=true from rfl,show (decide (0≤(1:Int))&&decide ((1:Int)<(([x,y]:List Int).length:Int)))=true from rfl]
  simp only[oT,tO,cT];rw[show (([x,y]:List Int).getD ((0:Int)+(0:Int)).toNat (0:Int))=x from rfl,show (([x,y]:List Int).getD ((0:Int)+(1:Int)).toNat (0:Int))=y from rfl,isVec_eq,oB]
  rcases h4 with h4 | ⟨h4,v,hv,hbig⟩
  ·rw[h4];cases hx:vecB (x,y)<;>simp[hx,orV]
  ·rw[h4];cases hx:vecB (x,y)
   ·rfl
   ·have:=vec_small hx;simp only[List.mem_cons,List.not_mem_nil,or_false] at hv;omega
def rdLt (l:List UInt8):Option Lt:=match rds (spa 44 [] l) with
 | some [x,y,z]=>if okL (x,y,z) then some (x,y,z) else none
 | _=>none
def orL (o:Option Lt):Lt×Bool:=match o with | some v=>(v,true) | none=>((0,0,0),false)
theorem lat_small3 {x y z:Int} (h:okL (x,y,z)=true):x.natAbs≤1000∧y.natAbs≤1000∧z.natAbs≤1000:=by
 have hl:=okL_iff.1 h;obtain⟨a1,a2,c1,c2,b1,b2,ix⟩:=hl;simp only at a1 a2 c1 c2 b1 b2;omega
theorem implRL {l:List UInt8} (h:l.length≤1048576):f144G KK (mk l)=some (orL (rdLt l)):=by
 obtain⟨r,b,e,h1,h2⟩:=parted_eq h 3;unfold f144G rdLt;have e:f195G KK (mk l) (bs [44]) (3:Int)=some (r,b):=e;rw[e,oB];cases hb:b
 ·simp only[nF,nT,cT,cF,oT,tO,oB];rcases h2 hb with h3 | h3
  ·cases hr:rds (spa 44 [] l) with
   | none=>rfl
   | some vs =>
    have hl:=rds_len hr
    match vs,hl with
    | [],_=>rfl
    | [_],_=>rfl
    | [_,_],_=>rfl
    | [_,_,_],hl=>exact absurd hl.symm h3
    | _ :: _ :: _ :: _ :: _,_=>rfl
  ·rw[h3];rfl
 ·obtain⟨h3,h4⟩:=h1 hb;obtain⟨x,y,z,rfl⟩:∃ x y z,r=[x,y,z]:=by
   match r,h3 with
   | [x,y,z],_=>exact⟨x,y,z,rfl⟩
  simp only[nT,nF,cT,cF,oT,tO];rw[show (decide (0≤(0:Int))&&decide ((0:Int)<(([x,y,z]:List Int).length:Int)))=true from rfl,show (decide (0≤(1:Int))&&decide ((1:Int)<(([x,y,z]:List Int).length:Int)))=true from rfl,show (decide (0≤(2:Int))&&decide ((2:Int)<(([x,y,z]:List Int).length:Int)))=true from rfl]
  simp only[oT,tO,cT];rw[show (([x,y,z]:List Int).getD ((0:Int)+(0:Int)).toNat (0:Int))=x from rfl,show (([x,y,z]:List Int).getD ((0:Int)+(1:Int)).toNat (0:Int))=y from rfl,show (([x,y,z]:List Int).getD ((0:Int)+(2:Int)).toNat (0:Int))=z from rfl,isLattice_eq,oB]
  rcases h4 with h4 | ⟨h4,v,hv,hbig⟩
  ·rw[h4];cases hx:okL (x,y,z)<;>simp[hx,orL]
  ·rw[h4];cases hx:okL (x,y,z)
   ·rfl
   ·have:=lat_small3 hx;simp only[List.mem_cons,List.not_mem_nil,or_false] at hv;omega
def matB (m:Mt):Bool:=smallB m&&((detS m==1)||(detS m == -1))
theorem implIsMat_eq (m:Mt):f110G KK m=some (matB m):=by
 unfold f110G f172G f173G f176G matB;have hs:smallB m=(decide (-1000≤m.1∧m.1≤1000)&&(decide (-1000≤m.2.1∧m.2.1≤1000)&&(decide (-1000≤m.2.2.1∧m.2.2.1≤1000)&&decide (-1000≤m.2.2.2∧m.2.2.2≤1000)))):=by
  unfold smallB vecB;rw[Bool.and_assoc]
 simp only[within_eq,oB,oT,tO,cT];cases h:smallB m
 ·rw[hs] at h;cases h1:decide (-1000≤m.1∧m.1≤1000)
  ·simp
  ·rw[h1,Bool.true_and] at h;cases h2:decide (-1000≤m.2.1∧m.2.1≤1000)
   ·simp
   ·rw[h2,Bool.true_and] at h;cases h3:decide (-1000≤m.2.2.1∧m.2.2.1≤1000)
    ·simp
    ·rw[h3,Bool.true_and] at h;rw[h];simp
 ·have hk:=small_iff.1 h;rw[dT hk.a,dT hk.b,dT hk.c,dT hk.d];simp only[cT,oB];rw[det_calc hk];cases h3:detS m==1<;>cases h4:detS m == -1<;>simp[h4]
def rdM (l:List UInt8):Option Mt:=match rds (spa 44 [] l) with
 | some [x,y,z,u]=>if matB (x,y,z,u) then some (x,y,z,u) else none
 | _=>none
def orM (o:Option Mt):Mt×Bool:=match o with | some v=>(v,true) | none=>((0,0,0,0),false)
theorem mat_small4 {x y z u:Int} (h:matB (x,y,z,u)=true):x.natAbs≤1000∧y.natAbs≤1000∧z.natAbs≤1000∧u.natAbs≤1000:=by
 unfold matB at h;rw[aT] at h;obtain⟨a,b,c,d⟩:=small_iff.1 h.1;simp only at a b c d;omega
theorem implRM {l:List UInt8} (h:l.length≤1048576):f235G KK (mk l)=some (orM (rdM l)):=by
 obtain⟨r,b,e,h1,h2⟩:=parted_eq h 4;unfold f235G rdM;have e:f195G KK (mk l) (bs [44]) (4:Int)=some (r,b):=e;rw[e,oB];cases hb:b
 ·simp only[nF,nT,cT,cF,oT,tO,oB];rcases h2 hb with h3 | h3
  ·cases hr:rds (spa 44 [] l) with
   | none=>rfl
   | some vs =>
    have hl:=rds_len hr
    match vs,hl with
    | [],_=>rfl
    | [_],_=>rfl
    | [_,_],_=>rfl
    | [_,_,_],_=>rfl
    | [_,_,_,_],hl=>exact absurd hl.symm h3
    | _ :: _ :: _ :: _ :: _ :: _,_=>rfl
  ·rw[h3];rfl
 ·obtain⟨h3,h4⟩:=h1 hb;obtain⟨x,y,z,u,rfl⟩:∃ x y z u,r=[x,y,z,u]:=by
   match r,h3 with
   | [x,y,z,u],_=>exact⟨x,y,z,u,rfl⟩
  simp only[nT,nF,cT,cF,oT,tO];rw[show (decide (0≤(0:Int))&&decide ((0:Int)<(([x,y,z,u]:List Int).length:Int)))=true from rfl,show (decide (0≤(1:Int))&&decide ((1:Int)<(([x,y,z,u]:List Int).length:Int)))=true from rfl,show (decide (0≤(2:Int))&&decide ((2:Int)<(([x,y,z,u]:List Int).length:Int)))=true from rfl,show (decide (0≤(3:Int))&&decide ((3:Int)<(([x,y,z,u]:List Int).length:Int)))=true from rfl]
  simp only[oT,tO,cT];rw[show (([x,y,z,u]:List Int).getD ((0:Int)+(0:Int)).toNat (0:Int))=x from rfl,show (([x,y,z,u]:List Int).getD ((0:Int)+(1:Int)).toNat (0:Int))=y from rfl,show (([x,y,z,u]:List Int).getD ((0:Int)+(2:Int)).toNat (0:Int))=z from rfl,show (([x,y,z,u]:List Int).getD ((0:Int)+(3:Int)).toNat (0:Int))=u from rfl,implIsMat_eq,oB]
  rcases h4 with h4 | ⟨h4,v,hv,hbig⟩
  ·rw[h4];cases hx:matB (x,y,z,u)<;>simp[hx,orM]
  ·rw[h4];cases hx:matB (x,y,z,u)
   ·rfl
   ·have:=mat_small4 hx;simp only[List.mem_cons,List.not_mem_nil,or_false] at hv;omega
theorem mat_det {m:Mt} (h:matB m=true):Sk m∧(detS m=1∨detS m = -1):=by
 unfold matB at h;rw[aT,Bool.or_eq_true,beq_iff_eq,beq_iff_eq] at h;exact⟨small_iff.1 h.1,h.2⟩
theorem tr_calc {m:Mt} (h:Sk m):w (m.1+m.2.2.2)=trS m:=by
 have:=h.a;have:=h.d;unfold trS;exact w_id (by omega) (by omega)
theorem implTurn {m:Mt} (hk:Sk m) (hd:detS m=1∨detS m = -1):f111G KK m=some (turnB m):=by
 have hdet:=det_calc hk;have htr:=tr_calc hk;have hu:f48G KK=some (1,0,0,1):=rfl;unfold f111G f174G f175G f209G f173G turnB;simp only[oB,hdet,htr,hu,oT,tO,cT];rw[mt_beq m (1,0,0,1),mt_beq m (-1,0,0,-1)];rcases hd with hd | hd
 ·rw[hd];cases h1:m==(1,0,0,1)
  ·cases h2:m==(-1,0,0,-1)
   ·cases h3:trS m == -1<;>cases h4:trS m==0<;>cases h5:trS m==1<;>rfl
   ·rfl
  ·rfl
 ·rw[hd];have h1:(m==(1,0,0,1))=false:=by
   rw[bN]
   rintro rfl
   simp[detS] at hd
  have h2:(m==(-1,0,0,-1))=false:=by
   rw[bN]
   rintro rfl
   simp[detS] at hd
  rw[h1,h2];cases h4:trS m==0<;>rfl
theorem implIsMot {m:Mt} (hm:matB m=true) {t:Vc} (ht:vecB t=true):f57G KK (m,t)=some (turnB m):=by
 obtain⟨hk,hd⟩:=mat_det hm;unfold f57G;simp only;rw[implIsMat_eq,hm,oB];simp only[nT,oT,tO,cT];rw[implTurn hk hd,oB];cases turnB m
 ·rfl
 ·simp only[cT];rw[isVec_eq,ht];rfl
def rdMo (l:List UInt8):Option Mo:=match spa 59 [] l with
 | [a,b]=>match rdM a,rdV b with
  | some m,some t=>if turnB m then some (m,t) else none
  | _,_=>none
 | _=>none
def orMo (o:Option Mo):Mo×Bool:=match o with | some v=>(v,true) | none=>(((0,0,0,0),0,0),false)
theorem rdV_vec {l:List UInt8} {v:Vc} (h:rdV l=some v):vecB v=true:=by
 unfold rdV at h;split at h
 ·split at h
  ·rename_i hv;cases h;exact hv
  ·cases h
 ·cases h
theorem rdM_mat {l:List UInt8} {m:Mt} (h:rdM l=some m):matB m=true:=by
 unfold rdM at h;split at h
 ·split at h
  ·rename_i hv;cases h;exact hv
  ·cases h
 ·cases h
def twoMo (a b:List UInt8):Option Mo:=match rdM a,rdV b with
 | some m,some t=>if turnB m then some (m,t) else none
 | _,_=>none
def okD (b:UInt8):Prop:=isD b=true∨b=45
theorem rd_ok {x:List UInt8} {v:Int} (h:rd x=some v):∀ b∈x,okD b:=by
 obtain⟨h1,_⟩:=rd_itoa.1 h;subst h1;intro b hb;by_cases hn:v<0
 ·obtain⟨k,rfl⟩:∃ k:Nat,v = -(k:Int):=⟨v.natAbs,by omega⟩
  rw[Lib.itoa_neg k (by omega)] at hb
  rcases List.mem_cons.1 hb with rfl | hb
  ·exact .inr rfl
  ·exact .inl (List.all_eq_true.1 (dec_spec k).1 b hb)
 ·obtain⟨k,rfl⟩:∃ k:Nat,v=(k:Int):=⟨v.toNat,by omega⟩
  rw[Lib.itoa_nonneg] at hb;exact .inl (List.all_eq_true.1 (dec_spec k).1 b hb)
theorem rds_ok:∀ {ws:List (List UInt8)} {vs:List Int},rds ws=some vs→∀ x∈ws,∀ b∈x,okD b
 | [],_,_,x,hx=>by cases hx
 | y :: r,vs,h,x,hx=>by
  rw[rds_cons] at h;split at h
  ·rename_i v us h1 h2;rcases List.mem_cons.1 hx with rfl | hx
   ·exact rd_ok h1
   ·exact rds_ok h2 x hx
  ·cases h
theorem spa_has {c b:UInt8} (hb:b≠c):∀ (l acc:List UInt8),b∈acc∨b∈l→∃ x∈spa c acc l,b∈x
 | [],acc,h=>by
  refine⟨acc,by simp[spa],?_⟩
  rcases h with h | h
  ·exact h
  ·cases h
 | a :: l,acc,h=>by
  rw[spa];split
  ·rename_i hac;rcases h with h | h
   ·exact⟨acc,by simp,h⟩
   ·rcases List.mem_cons.1 h with h | h
    ·exact absurd (h.trans hac) hb
    ·obtain⟨x,hx,hbx⟩:=spa_has hb l [] (.inr h);exact⟨x,List.mem_cons_of_mem _ hx,hbx⟩
  ·refine spa_has hb l (acc++[a]) ?_;rcases h with h | h
   ·exact .inl (List.mem_append.2 (.inl h))
   ·rcases List.mem_cons.1 h with rfl | h
    ·exact .inl (by simp)
    ·exact .inr h
theorem rdV_semi {l:List UInt8} (h:(59:UInt8)∈l):rdV l=none:=by
 unfold rdV;cases hr:rds (spa 44 [] l) with
 | none=>rfl
 | some vs =>
  exfalso;obtain⟨x,hx,hb⟩:=spa_has (c:=44) (b:=59) (by decide) l [] (.inr h)
  rcases rds_ok hr x hx 59 hb with h1 | h1
  ·exact absurd h1 (by decide)
  ·exact absurd h1 (by decide)
theorem index_no {c:UInt8}:∀ {a:List UInt8},c ∉ a→Lib.index a [c] = -1
 | [],_=>by
  unfold Lib.index;simp
 | b :: a,h=>by
  have h1:c≠b:=fun e=>h (by simp[e])
  have ha:c ∉ a:=fun e=>h (List.mem_cons_of_mem _ e);have e:=index_no (a:=a) ha;unfold Lib.index;rw[e];simp[h1]
theorem cut_hit {c:UInt8} {a r:List UInt8} (hl:(a++c :: r).length≤1048576) (h:c ∉ a):cutF (mk (a++c :: r)) (mk [c])=some (mk a,mk r,true):=by
 unfold cutF;rw[mk_size,show Nat.blt (a++c :: r).length 4294967281=true by rw[Nat.blt_eq];omega,cT,mk_list,mk_list]
 unfold Lib.cut;rw[index_hit1 h];have h2:((a.length:Int) == -1)=false:=by rw[bN];omega
 have e1:(a++c :: r).take a.length=a:=List.take_left;have e2:(a++c :: r).drop (a.length+1)=r:=by simp
 simp[h2,e1,e2,mk]
theorem cut_no {c:UInt8} {a:List UInt8} (hl:a.length≤1048576) (h:c ∉ a):cutF (mk a) (mk [c])=some (mk a,mk [],false):=by
 unfold cutF;rw[mk_size,show Nat.blt a.length 4294967281=true by rw[Nat.blt_eq];omega,cT,mk_list,mk_list]
 unfold Lib.cut;rw[index_no h];rfl
theorem rdV_nil:rdV []=none:=rfl
theorem implTwo {a b:List UInt8} (ha:a.length≤1048576) (hb:b.length≤1048576) {x:Bool} {l:List UInt8} (hc:f234G KK (mk l) (bs [59])=some (mk a,mk b,x)):f196G KK (mk l)=some (orMo (twoMo a b)):=by
 unfold f196G twoMo;rw[hc,oB,implRM ha,oB,implRV hb,oB]
 try simp only[oT,tO,cT]
 cases hm:rdM a with
 | none=>cases rdV b<;>rfl
 | some m =>
  cases ht:rdV b with
  | none=>rfl
  | some t =>
   simp only[orM,orV,nT,cF,nF,cT];rw[implIsMot (rdM_mat hm) (rdV_vec ht),oB];cases turnB m<;>rfl
theorem implRMo {l:List UInt8} (h:l.length≤1048576):f196G KK (mk l)=some (orMo (rdMo l)):=by
 have e59:bs [59]=mk [59]:=rfl;by_cases hc:(59:UInt8)∈l
 ·obtain⟨a,r,rfl,ha⟩:=List.eq_append_cons_of_mem hc;have hl:a.length≤1048576∧r.length≤1048576:=by
   simp only[lA,List.length_cons] at h;omega
  rw[implTwo hl.1 hl.2 (x:=true) (by unfold f234G;rw[e59];exact cut_hit h ha)]
  unfold rdMo twoMo;rw[spa_hit r a [] ha,List.nil_append];by_cases hr:(59:UInt8)∈r
  ·rw[rdV_semi hr];obtain⟨a2,r2,rfl,ha2⟩:=List.eq_append_cons_of_mem hr;rw[spa_hit r2 a2 [] ha2];have h3:=(spa_len 59 r2 []).2
   match hx:spa 59 [] r2 with
   | []=>rw[hx] at h3;simp at h3
   | x :: y=>cases rdM a<;>rfl
  ·rw[spa_none r [] hr,List.nil_append]
 ·rw[implTwo (l:=l) (a:=l) (b:=[]) h (by simp) (x:=false) (by unfold f234G;rw[e59];exact cut_no h hc)]
  unfold rdMo twoMo;rw[rdV_nil,spa_none l [] hc];cases rdM l<;>rfl
end Go.Proofs.YtelgaemfnhnbmaaGreatDoor.X
