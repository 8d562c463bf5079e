/- The texts of numbers, vectors, lattices and motions, and of the first lines of a program. -/
import Derived.Test.YtelgaemfnhnbmaaGreatDoorQtSR
import Derived.Test.YtelgaemfnhnbmaaGreatDoorQtME
namespace Go.Proofs.YtelgaemfnhnbmaaGreatDoor.X
open Go
set_option linter.unusedSimpArgs false
set_option linter.unusedVariables false
theorem ba_eq (a:ByteArray):(a != a)=false:=by
 unfold bne;rw[beq_toListBytes];simp
theorem okSize {n:Nat} (h:n≤1000000):Nat.ble n 9223372036854775807=true:=by
 rw[Nat.ble_eq];omega
abbrev dg (n:Int):List UInt8:=Lib.itoa n
theorem dg_len {n:Int} (h:n.natAbs<10000):(dg n).length≤5:=by
 have e:(10:Nat) ^ (3+1)=10000:=by decide
 by_cases hn:n<0
 ·obtain⟨k,rfl⟩:∃ k:Nat,n = -(k:Int):=⟨n.natAbs,by omega⟩
  show (Lib.itoa _).length≤5;rw[Lib.itoa_neg k (by omega),List.length_cons]
  have:=dec_lt 3 k (by omega)
  omega
 ·obtain⟨k,rfl⟩:∃ k:Nat,n=(k:Int):=⟨n.toNat,by omega⟩
  show (Lib.itoa _).length≤5;rw[Lib.itoa_nonneg];have:=dec_lt 3 k (by omega)
  omega
theorem text_eq {n:Int} (h:n.natAbs<10000):f64G KK n=some (mk (dg n)):=by
 unfold f64G f117G fmtF inI64;rw[dT (show (-9223372036854775808:Int)≤n by omega),dT (show n≤(9223372036854775807:Int) by omega)]
 rfl
theorem decN_eq {n:Int} (h0:0≤n) (h:n.natAbs<10000):f83G KK n=some (mk (dg n)):=by
 obtain⟨k,rfl⟩:∃ k:Nat,n=(k:Int):=⟨n.toNat,by omega⟩
 rw[dec_eq (by omega)]
 show _=some (mk (Lib.itoa _));rw[Lib.itoa_nonneg]
theorem numTxt_eq {n:Int} (h:n.natAbs<10000):f136G KK n=some (mk (dg n)):=by
 unfold f136G;by_cases hn:n<0
 ·obtain⟨k,rfl⟩:∃ k:Nat,n = -(k:Int):=⟨n.natAbs,by omega⟩
  have e:w ((0:Int) - -(k:Int))=(k:Int):=by rw[w_id (by omega) (by omega)];omega
  have e4:(10:Nat) ^ (3+1)=10000:=by decide
  have hl:=dec_lt 3 k (by omega)
  have e45:bs [45]=mk [45]:=rfl;rw[dT hn,cT,e,dec_eq (by omega),oB,e45,mk_size,mk_size,okSize (by simp;omega),cT,mk_app]
  show _=some (mk (Lib.itoa _));rw[Lib.itoa_neg k (by omega)]
  rfl
 ·rw[dF hn,cF,decN_eq (by omega) h]
  rfl
def cml:List Int→List UInt8
 | []=>[]
 | [a]=>dg a
 | a :: b :: r=>dg a++[44]++cml (b :: r)
theorem cml_len:∀ {ns:List Int},(∀ n∈ns,n.natAbs<10000)→(cml ns).length≤6*ns.length
 | [],_=>by simp[cml]
 | [a],h=>by
  have:=dg_len (h a (by simp))
  simp only[cml,List.length_singleton];omega
 | a :: b :: r,h=>by
  have h1:=dg_len (h a (by simp))
  have h2:=cml_len (ns:=b :: r) fun n hn=>h n (List.mem_cons_of_mem _ hn);simp only[cml,lA,List.length_cons,List.length_nil] at h2 ⊢;omega
theorem joined_loop {sep:ByteArray} {ns:List Int} (h:∀ n∈ns,n.natAbs<10000) (hl:ns.length≤100):∀ (k q:Nat) (s:List ByteArray),s.length=q→q≤ns.length→ns.length-q<k →
  f96_l3 KK sep ns k (q:Int) s=joinF (s++(ns.drop q).map fun n=>mk (dg n)) sep
 | 0,q,_,_,_,hk=>by omega
 | k+1,q,s,hs,hq,hk=>by
  show f96_b3 KK sep ns (fun v0 v1=>f96_l3 KK sep ns k v0 v1) (q:Int) s=_;unfold f96_b3;by_cases hlt:q<ns.length
  ·rw[in1 hlt,in0,gd hlt];simp only[aS,cT];rw[text_eq (h _ (gM hlt)),oB,blim16 (by simp;omega),cT,w_succ (by omega),joined_loop h hl k (q+1) _ (by simp;omega) (by omega) (by omega),dC hlt,List.map_cons,List.append_assoc]
   rfl
  ·have:q=ns.length:=by omega
   subst this;rw[out1,cF,List.drop_length,List.map_nil,List.append_nil];unfold f158G;cases joinF s sep<;>rfl
theorem join_cml:∀ ns:List Int,Lib.join (ns.map dg) [44]=cml ns
 | []=>rfl
 | [a]=>by simp[Lib.join,List.intercalate,cml]
 | a :: b :: r=>by
  have:=join_cml (b :: r);simp only[Lib.join,List.intercalate,List.map_cons,List.intersperse_cons_cons,List.flatten_cons,cml] at this ⊢;rw[this];simp
theorem joined_eq {ns:List Int} (h:∀ n∈ns,n.natAbs<10000) (hl:ns.length≤100) (h0:0<ns.length:=by simp):f96G KK (bs [44]) ns=some (mk (cml ns)):=by
 have:=joined_loop (sep:=bs [44]) h hl KK 0 [] rfl (by omega) (by simp only[KK];omega)
 have z:((0:Nat):Int)=0:=rfl;rw[z,List.drop_zero,List.nil_append] at this;unfold f96G f96_g;refine this.trans ?_;have e:Lib.join ((ns.map fun n=>mk (dg n)).map (·.data.toList)) (bs [44]).data.toList=cml ns:=by
  have e1:((ns.map fun n=>mk (dg n)).map (·.data.toList))=ns.map dg:=by
   rw[List.map_map];exact List.map_congr_left fun n _=>mk_list _
  rw[e1];exact join_cml ns
 have hc:=cml_len h;unfold joinF joinB;rw[e,show Nat.ble (cml ns).length 1000000=true by rw[Nat.ble_eq];omega,List.length_map,show Nat.blt 0 ns.length=true by rw[Nat.blt_eq];exact h0,show Nat.ble ns.length 1000=true by rw[Nat.ble_eq];omega]
 rfl
theorem cml_snoc:∀ {ns:List Int} (m:Int),ns≠[]→cml (ns++[m])=cml ns++[44]++dg m
 | [],_,h=>absurd rfl h
 | [a],m,_=>rfl
 | a :: b :: r,m,_=>by
  have:=cml_snoc (ns:=b :: r) m (by simp)
  simp only[List.cons_append] at this ⊢;rw[cml,this];simp[cml]
theorem sjoin_loop {ns:List Int} (h:∀ n∈ns,n.natAbs<10000) (hl:ns.length≤100):∀ (k q:Nat),q≤ns.length→ns.length-q<k →
  f126_l3 KK ns (bs [44]) k (mk (cml (ns.take q))) (q:Int)=some (mk (cml ns))
 | 0,q,_,hk=>by omega
 | k+1,q,hq,hk=>by
  show f126_b3 KK ns (bs [44]) (fun v0 v1=>f126_l3 KK ns (bs [44]) k v0 v1) (mk (cml (ns.take q))) (q:Int)=_;unfold f126_b3;have e44:bs [44]=mk [44]:=rfl;by_cases hlt:q<ns.length
  ·have hn:=h _ (gM hlt);have h1:=cml_len (ns:=ns.take q) fun n hn=>h n (List.mem_of_mem_take hn);have h2:=dg_len hn;rw[List.length_take] at h1;rw[in1 hlt,in0,gd hlt,numTxt_eq hn,w_succ (by omega),e44]
   have hd:ns.take (q+1)=ns.take q++[ns[q]]:=tS hlt;cases q with
   | zero =>
    rw[dF (show ¬ ((0:Nat):Int)>0 by omega)]
    simp only[cF,aS,cT,oB];rw[mk_size,mk_size,okSize (by omega),cT,mk_app]
    have e:cml (ns.take 0)++dg ns[0]=cml (ns.take (0+1)):=by rw[hd];rfl
    rw[e];exact sjoin_loop h hl k 1 (by omega) (by omega)
   | succ q =>
    rw[dT (show ((q+1:Nat):Int)>0 by omega)]
    simp only[aS,cT,oB];rw[mk_size,mk_size,okSize (by simp;omega),cT,mk_app,mk_size,mk_size,okSize (by simp;omega),cT,mk_app]
    have hne:ns.take (q+1)≠[]:=by
     intro e;have:=congrArg List.length e;rw[List.length_take,List.length_nil] at this;omega
    rw[← cml_snoc _ hne,← hd];exact sjoin_loop h hl k (q+1+1) (by omega) (by omega)
  ·have:q=ns.length:=by omega
   subst this;rw[out1,cF,List.take_length]
theorem sjoin_eq {ns:List Int} (h:∀ n∈ns,n.natAbs<10000) (hl:ns.length≤100):f126G KK ns (bs [44])=some (mk (cml ns)):=by
 have:=sjoin_loop h hl KK 0 (by omega) (by simp only[KK];omega)
 unfold f126G f126_g;exact this
def vecL (v:Vc):List UInt8:=cml [v.1,v.2]
def latL (l:Lt):List UInt8:=cml [l.1,l.2.1,l.2.2]
def matL (m:Mt):List UInt8:=cml [m.1,m.2.1,m.2.2.1,m.2.2.2]
theorem vec_ns {v:Vc} (h:vecB v=true):∀ n∈[v.1,v.2],n.natAbs<10000:=by
 obtain⟨a,b⟩:=vecB_iff.1 h;intro n hn;simp only[List.mem_cons,List.not_mem_nil,or_false] at hn;omega
theorem vecL_len {v:Vc} (h:vecB v=true):(vecL v).length≤12:=cml_len (vec_ns h)
theorem specVT_eq {v:Vc} (h:vecB v=true):f80G KK v=some (mk (vecL v)):=by
 have hn:=vec_ns h;have e44:bs [44]=mk [44]:=rfl;have l1:=dg_len (hn v.1 (by simp))
 have l2:=dg_len (hn v.2 (by simp))
 unfold f80G;rw[specIsVec_eq,h,oB];simp only[nT,cF];rw[numTxt_eq (hn v.1 (by simp)),numTxt_eq (hn v.2 (by simp)),oB,e44,mk_size,mk_size,okSize (by simp;omega),cT,oB,mk_app,mk_size,mk_size,okSize (by simp;omega),cT,mk_app]
 rfl
theorem implVT_eq {v:Vc} (h:vecB v=true):f59G KK v=some (mk (vecL v)):=by
 unfold f59G;rw[isVec_eq,h,oB];simp only[nT,cF];rw[joined_eq (vec_ns h) (by simp)]
 rfl
theorem lat_ns {l:Lt} (hl:IsL l):∀ n∈[l.1,l.2.1,l.2.2],n.natAbs<10000:=by
 obtain⟨a1,a2,c1,c2,b1,b2,ix⟩:=hl;intro n hn;simp only[List.mem_cons,List.not_mem_nil,or_false] at hn;omega
theorem latL_len {l:Lt} (hl:IsL l):(latL l).length≤18:=cml_len (lat_ns hl)
theorem implLT_eq {l:Lt} (hl:IsL l):f47G KK l=some (mk (latL l)):=by
 unfold f47G;rw[isLattice_eq,okL_iff.2 hl,oB];simp only[nT,cF];rw[joined_eq (lat_ns hl) (by simp)]
 rfl
theorem specLT_eq {l:Lt} (hl:IsL l):f72G KK l=some (mk (latL l)):=by
 unfold f72G;rw[specIsLattice_eq,okL_iff.2 hl,oB];simp only[nT,cF];rw[sjoin_eq (lat_ns hl) (by simp)]
 rfl
def frL (f:Int):List UInt8:=bif f==0 then [83] else [72]
def headL (f:Int) (l:Lt):List UInt8:=[102,114,97,109,101,32]++frL f++[10,108,97,116,116,105,99,101,32]++latL l++[10]
theorem fr_ok {f:Int} (h:okF f=true):(decide (0≤f)&&decide (f≤(w (f+(1:Int))))&&decide ((w (f+(1:Int)))≤((bs [83,72]).size:Int)))=true∧(bs [83,72]).extract f.toNat (w (f+(1:Int))).toNat=mk (frL f):=by
 have hf':0≤f∧f≤1:=by simpa[okF] using h
 have:f=0∨f=1:=by omega
 rcases this with rfl | rfl
 ·exact⟨by decide +kernel,by decide +kernel⟩
 ·exact⟨by decide +kernel,by decide +kernel⟩
theorem bs_frame:bs [102,114,97,109,101,32]=mk [102,114,97,109,101,32]:=rfl
theorem bs_lat:bs [10,108,97,116,116,105,99,101,32]=mk [10,108,97,116,116,105,99,101,32]:=rfl
theorem bs_nl:bs [10]=mk [10]:=rfl
theorem bs_mark:bs [109,97,114,107,32]=mk [109,97,114,107,32]:=rfl
theorem bs_motion:bs [109,111,116,105,111,110,32]=mk [109,111,116,105,111,110,32]:=rfl
theorem bs_semi:bs [59]=mk [59]:=rfl
theorem bs_sp:bs [32]=mk [32]:=rfl
theorem frL_len (f:Int):(frL f).length=1:=by
 unfold frL;cases f==0<;>rfl
theorem headL_len (f:Int) {l:Lt} (hl:IsL l):(headL f l).length≤100:=by
 have:=frL_len f;have:=latL_len hl;simp only[headL,lA,List.length_cons,List.length_nil];omega
theorem specHead_eq {p:Pt} (hf:okF p.1=true) (hl:IsL p.2.1):f27G KK p=some (mk (headL p.1 p.2.1)):=by
 obtain⟨e1,e2⟩:=fr_ok hf;have h1:=frL_len p.1;have h2:=latL_len hl;unfold f27G;rw[e1,e2,cT,bs_frame,bs_lat,bs_nl,mk_app,mk_app,specLT_eq hl,oB,mk_app,mk_app];simp only[mk_size,lA,List.length_cons,List.length_nil];rw[okSize (by omega),okSize (by omega),okSize (by omega),okSize (by omega)]
 rfl
theorem implHead_eq {p:Pt} (hf:okF p.1=true) (hl:IsL p.2.1):f17G KK p=some (mk (headL p.1 p.2.1)):=by
 obtain⟨e1,e2⟩:=fr_ok hf;have h1:=frL_len p.1;have h2:=latL_len hl;unfold f17G;rw[e1,e2,cT,bs_frame,bs_lat,bs_nl,mk_app,mk_app,implLT_eq hl,oB,mk_app,mk_app];simp only[mk_size,lA,List.length_cons,List.length_nil];rw[okSize (by omega),okSize (by omega),okSize (by omega),okSize (by omega)]
 rfl
def markL (v:Vc) (c:Int):List UInt8:=[109,97,114,107,32]++vecL v++[32]++dg c++[10]
theorem markL_len {v:Vc} (h:vecB v=true) {c:Int} (hc:c.natAbs<10000):(markL v c).length≤30:=by
 have:=vecL_len h;have:=dg_len hc;simp only[markL,lA,List.length_cons,List.length_nil];omega
theorem specMark_eq {v:Vc} (h:vecB v=true) {c:Int} (h1:0≤c) (h2:c≤9):f34G KK v c=some (mk (markL v c)):=by
 have l1:=vecL_len h;have l2:=dg_len (n:=c) (by omega)
 unfold f34G;rw[specVT_eq h,oB,bs_mark,bs_sp,bs_nl,mk_app,mk_app,decN_eq h1 (by omega),oB,mk_app,mk_app]
 simp only[mk_size,lA,List.length_cons,List.length_nil];rw[okSize (by omega),okSize (by omega),okSize (by omega),okSize (by omega)]
 rfl
end Go.Proofs.YtelgaemfnhnbmaaGreatDoor.X
