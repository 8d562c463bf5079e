/- What a program's lines print is read back: numbers, vectors, lattices, motions, lines. -/
import Derived.Test.YtelgaemfnhnbmaaGreatDoorQtSI
import Derived.Test.YtelgaemfnhnbmaaGreatDoorQtPShortProgram
namespace Go.Proofs.YtelgaemfnhnbmaaGreatDoor.X
open Go
set_option linter.unusedSimpArgs false
set_option linter.unusedVariables false
theorem unm_le (l:List UInt8):(unm l).length≤l.length:=by
 cases l with
 | nil=>simp[unm]
 | cons b r =>
  simp only[unm];split<;>simp
theorem rd_dg {n:Int} (h:n.natAbs<10000):rd (dg n)=some n:=by
 rw[rd_itoa];have h1:=dg_len h;have h2:=unm_le (dg n);exact⟨rfl,by omega⟩
theorem ok_ne {b:UInt8} (h:okD b):b≠44∧b≠59∧b≠32∧b≠10:=by
 refine⟨?_,?_,?_,?_⟩<;>rintro rfl<;>rcases h with h | h<;>revert h<;>decide
theorem dg_ok {n:Int} (h:n.natAbs<10000):∀ b∈dg n,okD b:=rd_ok (rd_dg h)
theorem spa_cml:∀ {ns:List Int},ns≠[]→(∀ n∈ns,n.natAbs<10000)→spa 44 [] (cml ns)=ns.map dg
 | [],h,_=>absurd rfl h
 | [a],_,h=>by
  rw[cml,spa_none _ _ fun e=>(ok_ne (dg_ok (h a (by simp)) _ e)).1 rfl]
  rfl
 | a :: b :: r,_,h=>by
  rw[cml,List.append_assoc,List.singleton_append,spa_hit _ _ _ fun e=>(ok_ne (dg_ok (h a (by simp)) _ e)).1 rfl,spa_cml (by simp) fun n hn=>h n (List.mem_cons_of_mem _ hn)]
  rfl
theorem rds_map:∀ {ns:List Int},(∀ n∈ns,n.natAbs<10000)→rds (ns.map dg)=some ns
 | [],_=>rfl
 | a :: r,h=>by
  rw[List.map_cons,rds_cons,rd_dg (h a (by simp)),rds_map fun n hn=>h n (List.mem_cons_of_mem _ hn)]
theorem cml_ok:∀ {ns:List Int},(∀ n∈ns,n.natAbs<10000)→∀ b∈cml ns,okD b∨b=44
 | [],_,b,hb=>by cases hb
 | [a],h,b,hb=>.inl (dg_ok (h a (by simp)) b hb)
 | a :: c :: r,h,b,hb=>by
  rw[cml,List.append_assoc,List.mem_append,List.mem_append,mS] at hb;rcases hb with hb | hb | hb
  ·exact .inl (dg_ok (h a (by simp)) b hb)
  ·exact .inr hb
  ·exact cml_ok (fun n hn=>h n (List.mem_cons_of_mem _ hn)) b hb
theorem cml_no {ns:List Int} (h:∀ n∈ns,n.natAbs<10000):(59:UInt8) ∉ cml ns∧(32:UInt8) ∉ cml ns∧(10:UInt8) ∉ cml ns:=by
 refine⟨fun e=>?_,fun e=>?_,fun e=>?_⟩<;>rcases cml_ok h _ e with e | e
 ·exact (ok_ne e).2.1 rfl
 ·revert e;decide
 ·exact (ok_ne e).2.2.1 rfl
 ·revert e;decide
 ·exact (ok_ne e).2.2.2 rfl
 ·revert e;decide
theorem vec_no {v:Vc} (h:vecB v=true):(59:UInt8) ∉ vecL v∧(32:UInt8) ∉ vecL v∧(10:UInt8) ∉ vecL v:=cml_no (vec_ns h)
theorem lat_no {l:Lt} (h:IsL l):(59:UInt8) ∉ latL l∧(32:UInt8) ∉ latL l∧(10:UInt8) ∉ latL l:=cml_no (lat_ns h)
theorem mat_no {m:Mt} (h:m∈pmQ++pmH):(59:UInt8) ∉ matL m∧(32:UInt8) ∉ matL m∧(10:UInt8) ∉ matL m:=cml_no (mat_ns h)
theorem rdV_L {v:Vc} (h:vecB v=true):rdV (vecL v)=some v:=by
 unfold rdV vecL;rw[spa_cml (by simp) (vec_ns h),rds_map (vec_ns h)]
 simp only;rw[if_pos h]
theorem rdLt_L {l:Lt} (hl:IsL l):rdLt (latL l)=some l:=by
 unfold rdLt latL;rw[spa_cml (by simp) (lat_ns hl),rds_map (lat_ns hl)]
 simp only;rw[if_pos (okL_iff.2 hl)]
theorem pm_mat:(pmQ++pmH).all (fun m=>matB m&&turnB m)=true:=by decide +kernel
theorem pm_of {m:Mt} (h:m∈pmQ++pmH):matB m=true∧turnB m=true:=by
 have:=List.all_eq_true.1 pm_mat m h
 rwa [aT] at this
theorem rdMo_L {m:Mo} (h:m.1∈pmQ++pmH) (hv:vecB m.2=true):rdMo (motL m)=some m:=by
 have e1:rdM (matL m.1)=some m.1:=by
  unfold rdM matL;rw[spa_cml (by simp) (mat_ns h),rds_map (mat_ns h)]
  simp only;rw[if_pos (pm_of h).1]
 have e2:spa 59 [] (motL m)=[matL m.1,vecL m.2]:=by
  unfold motL;rw[List.append_assoc,List.singleton_append,spa_hit _ _ _ (mat_no h).1,spa_none _ _ (vec_no hv).1];rfl
 unfold rdMo;rw[e2];simp only;rw[e1,rdV_L hv];simp only;rw[if_pos (pm_of h).2]
theorem rdC_dg {c:Int} (h0:0≤c) (h9:c≤9):rdC (dg c)=some c:=by
 obtain⟨k,rfl⟩:∃ k:Nat,c=(k:Int):=⟨c.toNat,by omega⟩
 have e:dg (k:Int)=[UInt8.ofNat (48+k)]:=by
  show Lib.itoa _=_;rw[Lib.itoa_nonneg,dec_one (by omega)]
 have e2:=u8_of (n:=48+k) (by omega)
 rw[e,rdC_one,e2,if_pos]
 ·congr 1;omega
 ·unfold isD;rw[e2,aT,dE,dE];omega
def joinL (ls:List (List UInt8)):List UInt8:=ls.flatMap fun x=>x++[10]
theorem joinL_app (a b:List (List UInt8)):joinL (a++b)=joinL a++joinL b:=List.flatMap_append
theorem joinL_one (x:List UInt8):joinL [x]=x++[10]:=by simp[joinL]
theorem spa_join:∀ (ls:List (List UInt8)),(∀ x∈ls,(10:UInt8) ∉ x)→spa 10 [] (joinL ls)=ls++[[]]
 | [],_=>rfl
 | x :: r,h=>by
  have e:joinL (x :: r)=x++10 :: joinL r:=by simp[joinL]
  rw[e,spa_hit _ _ _ (h x (by simp)),spa_join r fun y hy=>h y (List.mem_cons_of_mem _ hy)]
  rfl
theorem join_end {ls:List (List UInt8)} (h:ls≠[]):∃ t,joinL ls=t++[10]:=by
 rcases List.eq_nil_or_concat ls with rfl | ⟨a,x,e⟩
 ·exact absurd rfl h
 ·rw[e,List.concat_eq_append,joinL_app,joinL_one];exact⟨joinL a++x,by simp⟩
theorem cmp_lines {ls:List (List UInt8)} (h0:ls≠[]) (h10:∀ x∈ls,(10:UInt8) ∉ x) (hlen:(joinL ls).length≤3000) {s:St} (hr:runS ls s0=(s,0)) (he:endC s=0):cmpS (joinL ls)=.inr s:=by
 obtain⟨t,ht⟩:=join_end h0;have hs:=spa_join ls h10;rw[ht,spa_end] at hs;have hs:=List.append_cancel_right hs;rw[ht] at hlen ⊢;unfold cmpS;rw[if_neg (by omega),if_neg (by simp),if_neg (by simp),List.dropLast_concat,hs,hr,if_neg (by simp),if_neg (by simp[he])]
def lnF (f:Int):List UInt8:=wF++32 :: frL f
def lnL (l:Lt):List UInt8:=wL++32 :: latL l
def lnM (m:Mo):List UInt8:=wM++32 :: motL m
def lnK (x:Ma):List UInt8:=wK++32 :: (vecL x.1++32 :: dg x.2)
theorem head_ln (f:Int) (l:Lt):headL f l=joinL [lnF f,lnL l]:=by simp[headL,joinL,lnF,lnL,wF,wL]
theorem mln_ln (m:Mo):mlnL m=joinL [lnM m]:=by simp[mlnL,joinL,lnM,wM]
theorem mark_ln (v:Vc) (c:Int):markL v c=joinL [lnK (v,c)]:=by simp[markL,joinL,lnK,wK]
theorem fr_no (f:Int):(32:UInt8) ∉ frL f∧(10:UInt8) ∉ frL f:=by
 unfold frL;cases f==0<;>decide
theorem w_no:((32:UInt8) ∉ wF∧(10:UInt8) ∉ wF)∧((32:UInt8) ∉ wL∧(10:UInt8) ∉ wL)∧((32:UInt8) ∉ wM∧(10:UInt8) ∉ wM)∧((32:UInt8) ∉ wK∧(10:UInt8) ∉ wK):=by decide
theorem two_words {a b:List UInt8} (ha:(32:UInt8) ∉ a) (hb:(32:UInt8) ∉ b):spa 32 [] (a++32 :: b)=[a,b]:=by
 rw[spa_hit _ _ _ ha,spa_none _ _ hb];rfl
theorem no_ten {a b:List UInt8} (ha:(10:UInt8) ∉ a) (hb:(10:UInt8) ∉ b):(10:UInt8) ∉ a++32 :: b:=by
 rw[List.mem_append,List.mem_cons]
 rintro (h | h | h)
 ·exact ha h
 ·revert h;decide
 ·exact hb h
theorem mot_no {m:Mo} (h:m.1∈pmQ++pmH) (hv:vecB m.2=true):(32:UInt8) ∉ motL m∧(10:UInt8) ∉ motL m:=by
 have h1:=mat_no h;have h2:=vec_no hv;unfold motL;constructor<;>rw[List.append_assoc,List.mem_append,List.mem_append,mS]<;>rintro (e | e | e)
 ·exact h1.2.1 e
 ·revert e;decide
 ·exact h2.2.1 e
 ·exact h1.2.2 e
 ·revert e;decide
 ·exact h2.2.2 e
theorem dg_no {c:Int} (h:c.natAbs<10000):(32:UInt8) ∉ dg c∧(10:UInt8) ∉ dg c:=⟨fun e=>(ok_ne (dg_ok h _ e)).2.2.1 rfl,fun e=>(ok_ne (dg_ok h _ e)).2.2.2 rfl⟩
theorem run_one {x:List UInt8} {r:List (List UInt8)} {s s':St} (h:stepS s (spa 32 [] x)=(s',0)):runS (x :: r) s=runS r s':=by
 rw[run_cons,h];rfl
theorem run_F {f:Int} (hf:okF f=true) {r:List (List UInt8)}:runS (lnF f :: r) s0=runS r (1,f,(0,0,0),[],[]):=by
 refine run_one ?_;unfold lnF;rw[two_words w_no.1.1 (fr_no f).1];have:f=0∨f=1:=by
  unfold okF at hf;have:=of_decide_eq_true hf;omega
 rcases this with rfl | rfl<;>rfl
theorem run_L {f:Int} {l0 l:Lt} (hl:IsL l) {r:List (List UInt8)}:runS (lnL l :: r) (1,f,l0,[],[])=runS r (2,f,l,[],[]):=by
 refine run_one ?_;unfold lnL;rw[two_words w_no.2.1.1 (lat_no hl).2.1];unfold stepS;simp only;rw[if_neg (by decide),if_pos trivial,rdLt_L hl]
 rfl
theorem run_M {f:Int} {l:Lt} {ks:List Ma} {r:List (List UInt8)}:∀ (T:List Mo) (n:Nat) (ms:List Mo),2≤n→(∀ m∈T,(m.1∈pmQ++pmH∧vecB m.2=true)∧suitB f l m=true∧redS l m.2=m.2)→ms.length+T.length≤8 →
  runS (T.map lnM++r) (n,f,l,ms,ks)=runS r (n+T.length,f,l,ms++T,ks)
 | [],n,ms,_,_,_=>by simp
 | m :: T,n,ms,hn,h,hl=>by
  obtain⟨⟨h1,h2⟩,h3,h4⟩:=h m (by simp)
  rw[List.length_cons] at hl;rw[List.map_cons,List.cons_append,run_one (s':=(n+1,f,l,ms++[m],ks)),run_M T (n+1) (ms++[m]) (by omega) (fun x hx=>h x (List.mem_cons_of_mem _ hx)) (by rw[lA,List.length_singleton];omega),List.append_assoc,List.length_cons,show n+1+T.length=n+(T.length+1) by omega]
  ·rfl
  ·unfold lnM;rw[two_words w_no.2.2.1.1 (mot_no h1 h2).1];unfold stepS;simp only;rw[if_neg (by decide),if_neg (by decide),if_pos trivial,rdMo_L h1 h2]
   simp only;rw[if_neg (by omega),if_neg (by omega),if_pos h3,h4]
theorem run_K {f:Int} {l:Lt} {gs:List Mo}:∀ (T:List Ma) (n:Nat) (ks:List Ma),2≤n→(∀ x∈T,vecB x.1=true∧0≤x.2∧x.2≤9)→ks.length+T.length≤40 →
  runS (T.map lnK) (n,f,l,gs,ks)=((n+T.length,f,l,gs,ks++T),0)
 | [],n,ks,_,_,_=>by simp[runS]
 | x :: T,n,ks,hn,h,hl=>by
  obtain⟨h1,h2,h3⟩:=h x (by simp)
  rw[List.length_cons] at hl;rw[List.map_cons,run_one (s':=(n+1,f,l,gs,ks++[x])),run_K T (n+1) (ks++[x]) (by omega) (fun x hx=>h x (List.mem_cons_of_mem _ hx)) (by rw[lA,List.length_singleton];omega),List.append_assoc,List.length_cons,show n+1+T.length=n+(T.length+1) by omega]
  ·rfl
  ·unfold lnK;rw[spa_hit _ _ _ w_no.2.2.2.1,two_words (vec_no h1).2.1 (dg_no (c:=x.2) (by omega)).1]
   unfold stepS;simp only[List.nil_append];rw[if_pos trivial,rdV_L h1,rdC_dg h2 h3];simp only;rw[if_neg (by omega),if_neg (by omega)]
end Go.Proofs.YtelgaemfnhnbmaaGreatDoor.X
