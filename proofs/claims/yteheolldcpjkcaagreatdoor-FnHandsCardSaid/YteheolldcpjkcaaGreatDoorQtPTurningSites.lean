/- The plain law of TurningSites: both sides list the cells that a turn of the order fixes. -/
import Derived.Test.YteheolldcpjkcaaGreatDoorQtMI
import Derived.Test.YteheolldcpjkcaaGreatDoorQzXRow
namespace Go.Proofs.YteheolldcpjkcaaGreatDoor.X
open Go
set_option linter.unusedSimpArgs false
set_option linter.unusedVariables false
noncomputable def Adt (p:Pt) (n:Int):List Vc:=(Ab p.2.1).filter fun v=>(Ad p).any fun g=>C3 g.1==n&&fxV p.2.1 v g
def okN (n:Int):Bool:=n==2||n==3||n==4||n==6
noncomputable def ZP (p:Pt) (n:Int):List Vc×Int:=bif okP p then (bif okN n then (Adt (Af p) n,0) else ([],2)) else ([],1)
theorem UP (n:Int):AbY KK [(2:Int),(3:Int),(4:Int),(6:Int)] n=some (okN n):=by
 have h:=CZ (X:=Int) (body:=fun L x=>PR KK [(2:Int),(3:Int),(4:Int),(6:Int)] n (fun v0=>L v0) x) [(2:Int),(3:Int),(4:Int),(6:Int)] (fun q=>(q:Int)) (fun a=>!(a==n)) (some true) (some false)
  (fun L q hq=>by
   have:q<4:=hq;unfold PR;rw[in1 hq,in0,gd hq,Aq (by omega)]
   simp only[aS,cT];cases [(2:Int),(3:Int),(4:Int),(6:Int)][q]==n<;>rfl)
  (fun L=>by
   unfold PR;rw[AY,cF]) KK 0 (by omega) (by simp[KK])
 unfold AbY AbX Ue;refine h.trans ?_;simp only[AqN,AsR,List.all_nil,okN,BEq.comm (a:=n)];cases ((2:Int)==n)<;>cases ((3:Int)==n)<;>cases ((4:Int)==n)<;>cases ((6:Int)==n)<;>rfl
theorem HG {α:Type} (p q:α→Bool):∀ l:List α,(l.filter p).any q=l.any fun a=>p a&&q a
 | []=>rfl
 | a :: l=>by
  have h:=HG p q l;cases hp:p a
  ·rw[List.filter_cons_of_neg (by simp[hp]),AsB,hp,h];simp
  ·rw[List.filter_cons_of_pos hp,AsB,AsB,hp,h];simp
theorem UQ {p q:Pt} (hq:IsP q) (n q9:Int) (ts:List Mo) (hn:ts.length≤1000) (hg:∀ g∈ts,J0 g) (y1 y2:Bool) (y4:List Mo) :
  GO KK p n q9 ts y1 y2 q y4 (Ab q.2.1) KK 0 []=some ((Ab q.2.1).filter (fun v=>ts.any (fxV q.2.1 v)),0):=by
 have hc:=AD hq.l;have h:=Ao (X:=Int×List Vc) (body:=fun L x=>Kz KK p n q9 ts y1 y2 q y4 (Ab q.2.1) (fun v0 v1=>L (v0,v1)) x.1 x.2) (Ab q.2.1) (fun i s=>((i:Int),s)) (fun s v=>bif ts.any (fxV q.2.1 v) then s++[v] else s) (fun s=>some (s,0)) (fun i s=>s.length≤i)
  (fun L i s hi hs=>by
   refine⟨?_,?_⟩
   ·cases ts.any (fxV q.2.1 (Ab q.2.1)[i])<;>simp<;>omega
   have hv:=BS hq.l (gM hi);unfold Kz;simp only;rw[in1 hi,in0,gd hi,Aq (by omega),Ix hq.l (by omega) hg hv,DV (by simp;omega)]
   simp only[aS,cT,oB];have h1:=LM (fxV q.2.1 (Ab q.2.1)[i]) ts 0 (by omega)
   have h2:decide (ts.foldl (fun s g=>bif fxV q.2.1 (Ab q.2.1)[i] g then s+1 else s) (0:Int)>0)=ts.any (fxV q.2.1 (Ab q.2.1)[i]):=by
    rw[ArU,dE];exact h1.trans (by simp)
   rw[h2];cases ts.any (fxV q.2.1 (Ab q.2.1)[i])<;>rfl)
  (fun L s hs=>by
   unfold Kz;simp only;rw[AY,cF]) KK 0 [] (by omega) (by have:=B4 (n:=(Ab q.2.1).length) (by omega);omega) (by simp)
 unfold GO;refine h.trans ?_;simp only[AqN];have:=Bm (fun v=>ts.any (fxV q.2.1 v)) (fun v:Vc=>v) (Ab q.2.1) [];rw[AsY,Aq8] at this;exact congrArg (fun l=>some (l,(0:Int))) this
theorem Mc (p:Pt) (n:Int):Ab3 KK p n=some (ZP p n):=by
 unfold Ab3 Ab2 ZP;rw[Dh,UP];simp only[oB];cases ho:okP p
 ·rfl
 have hp:=DJ ho;have hq:=Bn hp;simp only[nT,cF,cT];cases hn:okN n
 ·rfl
 simp only[nT,cF,cT];rw[Hy hp,oB,JW hq,oB,B1 hq.l,oB];have hc:=DY hq;have h:=Ao (X:=Int×List Mo) (body:=fun L x=>Lq KK p n true true (Af p) (Ad (Af p)) (Ab (Af p).2.1) (fun c0 c1 c2 c3 c4 c5 c6 d0 d1=>GO KK p n c0 c1 c2 c3 c4 c5 c6 KK d0 d1) (fun v0 v1=>L (v0,v1)) x.1 x.2) (Ad (Af p)) (fun q s=>((q:Int),s)) (fun s g=>bif C3 g.1==n then s++[g] else s)
  (fun s=>GO KK p n ((Ad (Af p)).length:Int) s true true (Af p) (Ad (Af p)) (Ab (Af p).2.1) KK 0 []) (fun q s=>s.length≤q)
  (fun L q s hq2 hi=>by
   refine⟨?_,?_⟩
   ·cases C3 (Ad (Af p))[q].1==n<;>simp<;>omega
   have hg:=Cr hq (gM hq2);unfold Lq;simp only;rw[in1 hq2,in0,gd hq2,Aq (by omega)]
   simp only[aS,cT];rw[show Y9 KK ((Ad (Af p))[q].1.1,(Ad (Af p))[q].1.2.1,(Ad (Af p))[q].1.2.2)=some (C3 (Ad (Af p))[q].1) from (Iy hg.1).2.1,oB,E1 (by simp;omega)]
   cases C3 (Ad (Af p))[q].1==n<;>rfl)
  (fun L s hi=>by
   unfold Lq;simp only;rw[AY,cF]) KK 0 [] (by omega) (by have:=B4 (n:=(Ad (Af p)).length) (by omega);omega) (by simp)
 unfold Uf;refine h.trans ?_;simp only[AqN];have hf:=Bm (fun g:Mo=>C3 g.1==n) (fun g:Mo=>g) (Ad (Af p)) [];rw[AsY,Aq8] at hf;rw[hf,UQ hq n _ _ (by have:=ArA (fun g:Mo=>C3 g.1==n) (Ad (Af p));omega) (fun g hg=>Cr hq (AqY.mp hg).1)]
 unfold Adt;congr 3;funext v;rw[HG]
theorem Adu {p q:Pt} (n q11:Int) (s:List Vc) (y1:Bool) (y3:List Mo) (y4:List Vc) (fs:List Mo) (hn:fs.length≤1000) (hg:∀ g∈fs,J0 g) (L:Int→List Vc→Option (List Vc×Int)) (hlen:s.length≤1000) (h11:0≤q11∧q11≤1000) :
  Ij KK p n q11 s y1 q y3 y4 fs L KK 0=bif fs.any (fun g=>AO g.1==1&&BE g.1==n) then L (q11+1) (s++[y4.getD ((0:Int)+q11).toNat ((0:Int),(0:Int))]) else L (q11+1) s:=by
 have h:=CZ (X:=Int) (body:=fun L17 x=>Ky KK p n q11 s y1 q y3 y4 fs L (fun v0=>L17 v0) x) fs (fun i=>(i:Int)) (fun g=>!(AO g.1==1&&BE g.1==n)) (L (q11+1) (s++[y4.getD ((0:Int)+q11).toNat ((0:Int),(0:Int))])) (L (q11+1) s)
  (fun L17 i hi=>by
   have hm:=hg _ (gM hi);unfold Ky;simp only[oT,cT];rw[in1 hi,in0,gd hi,Aq (by omega),Ay (n:=q11+1) (by omega) (by omega)]
   simp only[aS,cT];rw[show ED KK (fs[i].1.1,fs[i].1.2.1,fs[i].1.2.2)=some (AO fs[i].1) from (Ut (Bq hm.1)).1,oB,
    show PO KK (fs[i].1.1,fs[i].1.2.1,fs[i].1.2.2)=some (BE fs[i].1) from (Iy hm.1).1,DV (by simp;omega)]
   cases AO fs[i].1==1
   ·rfl
   ·simp only[cT,oB,Atb];cases BE fs[i].1==n<;>rfl)
  (fun L17=>by
   unfold Ky;simp only;rw[AY,cF,Ay (n:=q11+1) (by omega) (by omega)]) KK 0 (by omega) (by have:=B4 (n:=fs.length) (by omega);omega)
 unfold Ij;refine h.trans ?_;simp only[AqN];have e:(fs.all fun g=>!(AO g.1==1&&BE g.1==n))=!(fs.any fun g=>AO g.1==1&&BE g.1==n):=by
  rw[List.not_any_eq_all_not]
 rw[e];cases fs.any fun g=>AO g.1==1&&BE g.1==n<;>rfl
theorem ZQ {p:Pt} (hp:IsP p) {n:Int} (hn:okN n=true) (v:Vc):((Ad p).filter (fxV p.2.1 v)).any (fun g=>AO g.1==1&&BE g.1==n)=(Ad p).any fun g=>C3 g.1==n&&fxV p.2.1 v g:=by
 rw[HG,ArU,ArI,ArI];have hk:∀ g∈Ad p,(AO g.1==1&&BE g.1==n)=(C3 g.1==n):=by
  intro g hg;obtain⟨_,_,k1,k2⟩:=Iy (Cr hp hg).1;by_cases hd:AO g.1=1
  ·rw[k1 hd,hd];simp
  ·rw[k2 hd];have h1:(AO g.1==1)=false:=by simp[hd]
   have h2:((-2:Int)==n)=false:=by
    unfold okN at hn;rw[bN]
    rintro rfl
    simp at hn
   rw[h1,h2];rfl
 constructor
 ·rintro⟨g,hg,h⟩
  refine⟨g,hg,?_⟩;rw[hk g hg] at h;rw[Bool.and_comm];exact h
 ·rintro⟨g,hg,h⟩
  refine⟨g,hg,?_⟩;rw[hk g hg,Bool.and_comm];exact h
theorem Me (p:Pt) (n:Int):AbW KK p n=some (ZP p n):=by
 unfold AbW AbV ZP;rw[B5];simp only[oB,oT,cT];cases ho:okP p
 ·rfl
 have hp:=DJ ho;have hq:=Bn hp;simp only[nT,cF,cT];have hN:(bif (bif (bif (n != (2:Int)) then (n != (3:Int)) else false) then (n != (4:Int)) else false) then (n != (6:Int)) else false)=!okN n:=by
  unfold okN;simp only[bne];cases n==2<;>cases n==3<;>cases n==4<;>cases n==6<;>rfl
 rw[hN];cases hn:okN n
 ·rfl
 simp only[nT,cF,cT];rw[E4 hp,oB,E5 hq,oB,DX hq.l,oB];have hc:=AD hq.l;have hgl:=DY hq;have h:=Ao (X:=Int×List Vc) (body:=fun L x=>Ik KK p n true (Af p) (Ad (Af p)) (Ab (Af p).2.1) (fun c0 c1 c2 d0=>Ij KK p n c0 c1 true (Af p) (Ad (Af p)) (Ab (Af p).2.1) c2 (fun v0 v1=>L (v0,v1)) KK d0) (fun v0 v1=>L (v0,v1)) x.1 x.2) (Ab (Af p).2.1) (fun q s=>((q:Int),s))
  (fun s v=>bif (Ad (Af p)).any (fun g=>C3 g.1==n&&fxV (Af p).2.1 v g) then s++[v] else s) (fun s=>some (s,0)) (fun q s=>s.length≤q)
  (fun L q s hq2 hi=>by
   refine⟨?_,?_⟩
   ·cases (Ad (Af p)).any (fun g=>C3 g.1==n&&fxV (Af p).2.1 (Ab (Af p).2.1)[q] g)<;>simp<;>omega
   have hv:=BS hq.l (gM hq2);unfold Ik;simp only;rw[in1 hq2,in0,gd hq2,DF hq.l (by omega) (fun g hg=>Cr hq hg) hv]
   simp only[aS,cT,oB];rw[Adu n q s true _ _ _ (by have:=ArA (fxV (Af p).2.1 (Ab (Af p).2.1)[q]) (Ad (Af p));omega) (fun g hg=>Cr hq (AqY.mp hg).1) _ (by omega) (by omega),gd hq2,ZQ hq hn]
   have e:(q:Int)+1=((q+1:Nat):Int):=by omega
   rw[e];cases (Ad (Af p)).any (fun g=>C3 g.1==n&&fxV (Af p).2.1 (Ab (Af p).2.1)[q] g)<;>rfl)
  (fun L s hi=>by
   unfold Ik;simp only;rw[AY,cF]) KK 0 [] (by omega) (by have:=B4 (n:=(Ab (Af p).2.1).length) (by omega);omega) (by simp)
 unfold PQ;refine h.trans ?_;simp only[AqN];have hf:=Bm (fun v=>(Ad (Af p)).any (fun g=>C3 g.1==n&&fxV (Af p).2.1 v g)) (fun v:Vc=>v) (Ab (Af p).2.1) [];rw[AsY,Aq8] at hf;rw[hf];rfl
theorem Adv (p:Pt) (n:Int):(ZP p n).1.length≤1000:=by
 unfold ZP;cases ho:okP p
 ·simp
 cases okN n
 ·simp
 ·simp only[cT];have h1:=AD (Bn (DJ ho)).l;unfold Adt;exact Aq0 (ArA _ _) (by omega)
end Go.Proofs.YteheolldcpjkcaaGreatDoor.X
