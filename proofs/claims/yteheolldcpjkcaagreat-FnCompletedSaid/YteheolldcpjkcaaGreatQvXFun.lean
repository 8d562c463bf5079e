/- Functions: from the arguments to the first frame, from the last frame to the results. -/
import Derived.Test.YteheolldcpjkcaaGreatQvXCode
set_option linter.unusedSimpArgs false
set_option linter.unusedVariables false
set_option linter.unusedSectionVars false
namespace Go.Proofs.YteheolldcpjkcaaGreat.X
open Go Go.RowKit
variable [CW]
variable {C:Cx} {fr:Fr} {big:FF} {g:Sg} {a:Act} {w w':World} {E:Env}
theorem Sim.addSlot {f:FF} (h:Sim C f g a w) {i:Nat} {v:AV} (hv:AVR C g a v (a.tmps.getD i undef)):Sim C { f with sl:=ins f.sl i v } g a w:=by
 refine { h with up:=h.up.ins _ _,slots:=fun t v' hl=>?_ }
 change lkp (ins f.sl i v) t=some v' at hl;rw[Fx] at hl;split at hl
 ·rename_i e;subst e;cases hl;exact hv
 ·exact h.slots t v' hl
theorem BM {m:Md}:(s:Sh)→∀ {x:s.T} {n:Nat},∀ r∈(Aa m s x n).2,r.m=m
 | .int _,_,_,r,h | .bool,_,_,r,h | .str,_,_,r,h | .fn1 _ _,_,_,r,h | .fn2 _ _ _,_,_,r,h | .ol _ _,_,_,r,h=>by cases h
 | .list _ _,_,_,r,h=>by
  rcases Ara.1 h with rfl;rfl
 | .cons a b,x,n,r,h=>by
  rcases Aqy.1 h with h | h
  ·exact BM a r h
  ·exact BM b r h
theorem Ue {rows:List Ac} {n:Nat} {f:Nat→Option Ac} {g g1:Sg} (hr:∀ r∈rows,r.m.mine=false) (out:∀ j,¬ (n≤j∧j<n+rows.length)→g1.ρ j=g.ρ j) {k:Nat} (h:Own (more n rows f) g1 k):Own f g k:=by
 obtain⟨j,r,q,hj,hm,hq,hk⟩:=h;unfold more at hj;split at hj
 ·rw[hr r (AqH hj)] at hm;cases hm
 ·rename_i hin;rw[out j hin] at hq;exact⟨j,r,q,hj,hm,hq,hk⟩
theorem Sim.newCap {f:FF} (h:Sim C f g a w) (hno:∀ j b,f.bx j=some b→b.own=false) {i:Nat} {b:Bn} {k:Nat} (hi:g.β i=none) (hbo:b.own=false) (hb:Ch C (g.box i k) w b i) :
  Sim C { f with bx:=fun j=>if j=i then some b else f.bx j } (g.box i k) a w:=by
 have hg:=Sg.le_box hi k;have hno':∀ j b',(if j=i then some b else f.bx j)=some b'→b'.own=false:=by
  intro j b' hj;split at hj
  ·cases hj;exact hbo
  ·exact hno j b' hj
 refine { h with tied:=fun i q hi=>hg.ρ i q (h.tied i q hi),tie:=fun k hk=>hg.β 0 k (h.tie k hk),slots:=h.mono_slots hg,rows:=fun j r hj=>(h.rows j r hj).mono hg fun _ _ h=>h,rdisj:=h.rdisj,boxes:=?_,bdisj:=?_,rbox:=?_ }
 ·intro j b' hj;change (if j=i then some b else f.bx j)=some b' at hj;split at hj
  ·rename_i e;subst e;cases hj;exact hb
  ·exact (h.boxes j b' hj).mono hg
 ·intro i1 j1 b1 b2 k1 h1 h2 ho;rw[hno' i1 b1 h1] at ho;cases ho
 ·intro i1 r1 q1 j b' k' h1 m1 hq1 hb' ho;rw[hno' j b' hb'] at ho;cases ho
def We (x y:Option Ac):Prop:=x=y∨∃ r,x=some { r with m:=.io }∧y=some r∧r.m=.own
structure Pl (A B:Fr):Prop where
 nt:A.nt=B.nt
 sl:A.sl=B.sl
 bx:A.bx=B.bx
 len:A.rw.length=B.rw.length
 rw:∀ j,We (at? A.rw j) (at? B.rw j)
theorem JY:(s:Sh)→∀ {x:s.T} {n:Nat},(Aa .io s x n).1=(Aa .own s x n).1∧(Aa .io s x n).2=(Aa .own s x n).2.map fun r=>{ r with m:=.io }
 | .int _,_,_ | .bool,_,_ | .str,_,_ | .fn1 _ _,_,_ | .fn2 _ _ _,_,_ | .ol _ _,_,_=>⟨rfl,rfl⟩
 | .list _ _,_,_=>⟨rfl,rfl⟩
 | .cons a b,x,n=>by
  obtain⟨a1,a2⟩:=JY a (x:=x.1) (n:=n);have hl:(Aa .io a x.1 n).2.length=(Aa .own a x.1 n).2.length:=by rw[a2,AqD]
  obtain⟨b1,b2⟩:=JY b (x:=x.2) (n:=n+(Aa .own a x.1 n).2.length);simp only[Aa];rw[hl,a1,b1,a2,b2,AsM];exact⟨rfl,rfl⟩
theorem LB {A B:Fr} (h:Pl A B) {ra rb:List Ac} (hl:ra.length=rb.length) (hr:∀ j:Nat,We (ra[j]?) (rb[j]?)) (sl:List (Nat×AV)) (bx:List (Option Bn)):Pl { nt:=A.nt,sl:=sl,bx:=bx,rw:=A.rw++ra.map some } { nt:=B.nt,sl:=sl,bx:=bx,rw:=B.rw++rb.map some }:=by
 refine⟨h.nt,rfl,rfl,by simp[h.len,hl],fun j=>?_⟩
 simp only[BP];unfold more;rw[h.len,hl];split
 ·exact hr _
 ·exact h.rw j
theorem GQ:∀ (ps:List (PM×Sh)) {i:Nat} {A B:Fr} {x:AT ps},Pl A B→Pl (Af .io ps i A x) (Af .own ps i B x)
 | [],_,_,_,_,h=>h
 | (m,s) :: ps,i,A,B,x,h=>by
  have same:∀ (l:List Ac) (j:Nat),We l[j]? l[j]?:=fun l j=>.inl rfl;cases m with
  | ro =>
   refine GQ ps ?_;have:=LB h (ra:=(Aa .ro s x.1 B.rw.length).2) rfl (same _) (ins B.sl i (.v s.agg (Aa .ro s x.1 B.rw.length).1)) B.bx;simpa only[h.len,h.sl,h.bx] using this
  | mv =>
   refine GQ ps ?_;have:=LB h (ra:=(Aa .own s x.1 B.rw.length).2) rfl (same _) (ins B.sl i (.v s.agg (Aa .own s x.1 B.rw.length).1)) B.bx;simpa only[h.len,h.sl,h.bx] using this
  | cap =>
   refine GQ ps ?_;have:=LB h (ra:=(Aa .ro s x.1 B.rw.length).2) rfl (same _) (ins B.sl i (.l (.box B.bx.length 0))) (B.bx++[some ⟨false,(Aa .ro s x.1 B.rw.length).1⟩]);simpa only[h.len,h.sl,h.bx] using this
  | io =>
   refine GQ ps ?_;obtain⟨e1,e2⟩:=JY s (x:=x.1) (n:=B.rw.length);have:=LB h (ra:=(Aa .io s x.1 B.rw.length).2) (rb:=(Aa .own s x.1 B.rw.length).2) (by rw[e2,AqD]) (fun j=>by
    rw[e2,Aqt];cases hj:(Aa .own s x.1 B.rw.length).2[j]? with
    | none=>exact .inl rfl
    | some r=>exact .inr ⟨r,rfl,rfl,BM s r (AqH hj)⟩) (ins B.sl i (.v s.agg (Aa .own s x.1 B.rw.length).1)) B.bx
   simpa only[h.len,h.sl,h.bx,e1] using this
def At:List (PM×Sh)→List FP→Nat→Nat→Nat→Prop
 | (_,s) :: ps,F :: Fs,n,j,k=>(n≤j∧j<n+Bi s∧F k)∨At ps Fs (n+Bi s) j k
 | _,_,_,_,_=>False
theorem BV {m:Md}:(s:Sh)→∀ {x:s.T} {n:Nat},(Aa m s x n).2.length=Bi s
 | .int _,_,_ | .bool,_,_ | .str,_,_ | .fn1 _ _,_,_ | .fn2 _ _ _,_,_ | .list _ _,_,_ | .ol _ _,_,_=>rfl
 | .cons a b,x,n=>by simp[Aa,Bi,BV a,BV b]
theorem Jj (hw:C.w0=w):∀ (ps:List (PM×Sh)) {i:Nat} {us:List Value} {Fs:List FP} {x:AT ps} {fr:Fr} {g:Sg},ps.all J9=true→Dy C.P w ps x us Fs→Es ps Fs→(∀ k,hands ps Fs k→C.S k)→(∀ k,reads ps Fs k→C.R k)→Sim C fr.f g a w→Fit fr g→((∀ j b,at? fr.bx j=some b→b.own=false)∨∀ p∈ps,p.1=.ro) →
  (∀ j u,us[j]? = some u→a.tmps.getD (i+j) undef=u)→(∀ k,Own (at? fr.rw) g k→¬ hands ps Fs k) →
  ∃ g',g.Le g'∧Sim C (Af .own ps i fr x).f g' a w∧Fit (Af .own ps i fr x) g'∧∀ j r q k,at? (Af .own ps i fr x).rw j=some r→r.m=.own→g'.ρ j=some q→q.F k→At ps Fs fr.rw.length j k∨(at? fr.rw j=some r∧g.ρ j=some q)
 | [],i,us,Fs,x,fr,g,hp,hA,hap,hS,hR,hs,hf,hno,hu,hd=>⟨g,Sg.Le.refl g,hs,hf,fun j r q k h1 _ h3 _=>.inr ⟨h1,h3⟩⟩
 | (m,s) :: ps,i,us,Fs,x,fr,g,hp,⟨u,us',F,Fs',e1,e2,hlt,hArg,hA⟩,hap,hS,hR,hs,hf,hno,hu,hd=>by
  subst e1;subst e2;simp only[Asn,Aql] at hp;have hu0:a.tmps.getD i undef=u:=hu 0 u rfl;have hu':∀ j v,us'[j]? = some v→a.tmps.getD (i+1+j) undef=v:=fun j v hv=>by
   rw[← hu (j+1) v (by simpa using hv)]
   congr 1;omega
  have hS':∀ k,hands ps Fs' k→C.S k:=fun k hk=>hS k (.inr hk);have hR':∀ k,reads ps Fs' k→C.R k:=fun k hk=>hR k (.inr hk);have hnor:m≠.ro→∀ j b,at? fr.bx j=some b→b.own=false:=fun hm=>hno.elim id fun h=>absurd (h (m,s) (by simp)) hm
  have hno2:(∀ j b,at? fr.bx j=some b→b.own=false)∨∀ p∈ps,p.1=.ro:=hno.imp id fun h p hp=>h p (Arl _ hp)
  -- what the rest says of the new frame
  have fin:∀ {fr':Fr} {rows:List Ac} {g1 g':Sg},fr'.rw=fr.rw++rows.map some→rows.length=Bi s→(∀ j,¬ (fr.rw.length≤j∧j<fr.rw.length+Bi s)→g1.ρ j=g.ρ j)→(∀ j r q k,fr.rw.length≤j→rows[j-fr.rw.length]? = some r→r.m=.own→g1.ρ j=some q→q.F k→F k) →
    (∀ j r q k,at? (Af .own ps (i+1) fr' x.2).rw j=some r→r.m=.own→g'.ρ j=some q→q.F k→At ps Fs' fr'.rw.length j k∨(at? fr'.rw j=some r∧g1.ρ j=some q)) →
    ∀ j r q k,at? (Af .own ps (i+1) fr' x.2).rw j=some r→r.m=.own→g'.ρ j=some q→q.F k→At ((m,s) :: ps) (F :: Fs') fr.rw.length j k∨(at? fr.rw j=some r∧g.ρ j=some q):=by
   intro fr' rows g1 g' eA hn out hgv hI j r q k h1 h2 h3 h4;rcases hI j r q k h1 h2 h3 h4 with h5 | ⟨h5,h6⟩
   ·refine .inl (.inr ?_);rw[eA,Aqs,AqD,hn] at h5;exact h5
   ·rw[eA,BP] at h5;unfold more at h5;split at h5
    ·rename_i hin;rw[hn] at hin;exact .inl (.inl ⟨hin.1,hin.2,hgv j r q k hin.1 h5 h2 h6 h4⟩)
    ·rename_i hin;rw[hn] at hin;exact .inr ⟨h5,by rw[← out j hin];exact h6⟩
  -- a value whose rows are put down
  have val:∀ {rows:List Ac} {ls:List Lf} {cs:List Value} {g1:Sg},rows.length=Bi s→u=Ay s.agg cs→(s.agg=false→ls.length=1)→g.Le g1→(∀ j,¬ (fr.rw.length≤j∧j<fr.rw.length+rows.length)→g1.ρ j=g.ρ j)→g1.β=g.β→Sim C { fr.f with rw:=more fr.rw.length rows fr.f.rw } g1 a w→AC C g1 ls cs→(∀ k,Own (more fr.rw.length rows (at? fr.rw)) g1 k→¬ hands ps Fs' k) →
    (∀ j r q k,fr.rw.length≤j→rows[j-fr.rw.length]? = some r→r.m=.own→g1.ρ j=some q→q.F k→F k) →
    ∃ g',g.Le g'∧Sim C (Af .own ps (i+1) { fr with sl:=ins fr.sl i (.v s.agg ls),rw:=fr.rw++rows.map some } x.2).f g' a w∧Fit (Af .own ps (i+1) { fr with sl:=ins fr.sl i (.v s.agg ls),rw:=fr.rw++rows.map some } x.2) g' ∧
     ∀ j r q k,at? (Af .own ps (i+1) { fr with sl:=ins fr.sl i (.v s.agg ls),rw:=fr.rw++rows.map some } x.2).rw j=some r→r.m=.own→g'.ρ j=some q→q.F k→At ((m,s) :: ps) (F :: Fs') fr.rw.length j k∨(at? fr.rw j=some r∧g.ρ j=some q):=by
   intro rows ls cs g1 hn eu hl1 le out hβ hsim hls hown hgv;have h1:Sim C ({ fr with sl:=ins fr.sl i (.v s.agg ls),rw:=fr.rw++rows.map some }:Fr).f g1 a w:=by
    have h2:=hsim.addSlot (i:=i) (v:=.v s.agg ls) ⟨cs,by rw[hu0,eu],hls,hl1⟩
    simpa only[Fr.f,BP] using h2
   have h2:Fit ({ fr with sl:=ins fr.sl i (.v s.agg ls),rw:=fr.rw++rows.map some }:Fr) g1:=by
    refine⟨fun j hj=>by rw[hβ];exact hf.β j hj,fun j hj=>?_⟩
    simp only[Aqs,AqD] at hj;rw[out j (by omega)]
    exact hf.ρ j (by omega)
   obtain⟨g',le',s',f',i'⟩:=Jj hw ps (i:=i+1) hp.2 hA hap.2 hS' hR' h1 h2 hno2 hu' (fun k hk=>hown k (by simpa only[BP] using hk))
   exact⟨g',le.trans le',s',f',fin rfl hn (by rw[← hn];exact out) hgv i'⟩
  have own:m.hands=true→(∃ cs,u=Ay s.agg cs∧OC s w F x.1 cs)→∃ g',g.Le g'∧Sim C (Af .own ps (i+1) { fr with sl:=ins fr.sl i (.v s.agg (Aa .own s x.1 fr.rw.length).1),rw:=fr.rw++(Aa .own s x.1 fr.rw.length).2.map some } x.2).f g' a w∧Fit (Af .own ps (i+1) { fr with sl:=ins fr.sl i (.v s.agg (Aa .own s x.1 fr.rw.length).1),rw:=fr.rw++(Aa .own s x.1 fr.rw.length).2.map some } x.2) g' ∧
     ∀ j r q k,at? (Af .own ps (i+1) { fr with sl:=ins fr.sl i (.v s.agg (Aa .own s x.1 fr.rw.length).1),rw:=fr.rw++(Aa .own s x.1 fr.rw.length).2.map some } x.2).rw j=some r→r.m=.own→g'.ρ j=some q→q.F k→At ((m,s) :: ps) (F :: Fs') fr.rw.length j k∨(at? fr.rw j=some r∧g.ρ j=some q):=by
   rintro hm ⟨cs,eu,hO⟩
   obtain⟨g1,le,out,hβ,hsim,hls,ho,hFq⟩:=Sim.expandO s (n:=fr.rw.length) hs (by cases m<;>first | exact hp.1 | cases hm) hO (fun k hk=>⟨hlt k hk,.inr (hS k (.inl ⟨hm,hk⟩)),fun ho=>hd k ho (.inl ⟨hm,hk⟩),fun j b hb hbo=>by rw[hnor (fun e=>by rw[e] at hm;cases hm) j b hb] at hbo;cases hbo⟩) (fun j h1 _=>hf.ρ j h1)
   refine val (BV s) eu (fun hb=>by rw[← hls.len,OC.len s hO,Sh.n_one hb]) le out hβ hsim hls (fun k hk hk'=>?_) (fun j r q k h1 h2 h3 h4 h5=>?_)
   ·rcases ho k hk with h1 | h1
    ·exact hd k h1 (.inr hk')
    ·exact (hap.1 k h1).1 hk'
   ·have hlt':=(Aqz.1 h2).1;exact hFq j q h1 (by omega) h4 k h5
  have hdr:∀ k,Own (at? fr.rw) g k→¬ hands ps Fs' k:=fun k hk hk'=>hd k hk (.inr hk')
  -- rows that are read
  have read:m.hands=false→s.data=true→∀ {cs},RC C.P s w F x.1 cs→∃ g1,g.Le g1∧(∀ j,¬ (fr.rw.length≤j∧j<fr.rw.length+(Aa .ro s x.1 fr.rw.length).2.length)→g1.ρ j=g.ρ j)∧g1.β=g.β∧Sim C { fr.f with rw:=more fr.rw.length (Aa .ro s x.1 fr.rw.length).2 fr.f.rw } g1 a w∧AC C g1 (Aa .ro s x.1 fr.rw.length).1 cs:=fun hm hda cs hr =>
   Sim.expandR s hs hda hr ⟨rfl,hlt,fun _ k hk=>hR k (.inl ⟨hm,hk⟩),fun p pa e=>by cases e⟩ (fun p j e=>by cases e) (fun j h1 _=>hf.ρ j h1)
  cases m with
  | mv=>exact own rfl hArg
  | io=>exact own rfl hArg
  | ro =>
   obtain⟨cs,eu,hr⟩:=hArg;have fnc:∀ (l:Lf),s.agg=false→Bi s=0→(∀ md n,Aa md s x.1 n=([l],[]))→AC C g [l] cs→∃ g',g.Le g'∧Sim C (Af .own ((.ro,s) :: ps) i fr x).f g' a w∧Fit (Af .own ((.ro,s) :: ps) i fr x) g'∧∀ j r q k,at? (Af .own ((.ro,s) :: ps) i fr x).rw j=some r→r.m=.own→g'.ρ j=some q→q.F k→At ((.ro,s) :: ps) (F :: Fs') fr.rw.length j k∨(at? fr.rw j=some r∧g.ρ j=some q):=by
    intro l hag hrn he hl;have:=val (rows:=[]) (ls:=[l]) (g1:=g) (by rw[hrn];rfl) eu (fun _=>rfl) (Sg.Le.refl g) (fun _ _=>rfl) rfl (by rw[Ah];exact hs) hl (by rw[Ah];exact hdr) (fun j r q k _ h=>by simp at h)
    simpa only[Af,he] using this
   cases hda:s.data with
   | true =>
    obtain⟨g1,le,out,hβ,hsim,hls⟩:=read rfl hda hr;exact val (BV s) eu (fun hb=>by rw[← hls.len,RC.len s hr,Sh.n_one hb]) le out hβ hsim hls (fun k hk=>hdr k (Ue (fun r hr=>by rw[BM s r hr];rfl) out hk)) (fun j r q k _ h2 h3=>by rw[BM s r (AqH h2)] at h3;cases h3)
   | false =>
    have hp1:=hp.1;unfold J9 at hp1;simp only[hda,Arm] at hp1;cases s with
    | fn1 b c=>exact fnc (.fv1 b c x.1) rfl rfl (fun _ _=>rfl) (by
      obtain⟨hfl,f,caps,rfl,hrest⟩:=hr;exact⟨_,[],rfl,RC.mono (.fn1 b c) (fun k hk=>hR k (.inl ⟨rfl,hk⟩)) (by rw[hw];exact⟨hfl,f,caps,rfl,hrest⟩),rfl⟩)
    | fn2 b c d=>exact fnc (.fv2 b c d x.1) rfl rfl (fun _ _=>rfl) (by
      obtain⟨hfl,f,caps,rfl,hrest⟩:=hr;exact⟨_,[],rfl,RC.mono (.fn2 b c d) (fun k hk=>hR k (.inl ⟨rfl,hk⟩)) (by rw[hw];exact⟨hfl,f,caps,rfl,hrest⟩),rfl⟩)
    | _=>first | (cases hda;done) | (cases hp1;done) | simp at hp1
  | cap =>
   obtain⟨k,c,t,eu,hFk,hh,hr⟩:=hArg;have hda:s.data=true:=hp.1;obtain⟨g1,le,out,hβ,hsim,hls⟩:=read rfl hda hr;have hi:g1.β fr.bx.length=none:=by rw[hβ];exact hf.β _ (Aqr _)
   have h1:=Sim.newCap hsim (hnor (by simp)) (i:=fr.bx.length) (b:=⟨false,(Aa .ro s x.1 fr.rw.length).1⟩) (k:=k) hi rfl (Ch.ofCells ⟨k,c,t,Sg.box_at _ _ _,hh,hls.mono (Sg.le_box hi k),(fun e=>(Bool.noConfusion e:_)),fun _=>hR k (.inl ⟨rfl,hFk⟩)⟩)
   have h2:=h1.addSlot (i:=i) (v:=.l (.box fr.bx.length 0)) (VR.of1 ⟨k,Sg.box_at _ _ _,by rw[hu0,eu]⟩)
   have h3:Sim C ({ nt:=fr.nt,sl:=ins fr.sl i (.l (.box fr.bx.length 0)),bx:=fr.bx++[some ⟨false,(Aa .ro s x.1 fr.rw.length).1⟩],rw:=fr.rw++(Aa .ro s x.1 fr.rw.length).2.map some }:Fr).f (g1.box fr.bx.length k) a w:=by
    have e1:at? (fr.bx++[some ⟨false,(Aa .ro s x.1 fr.rw.length).1⟩])=fun j=>if j=fr.bx.length then some ⟨false,(Aa .ro s x.1 fr.rw.length).1⟩ else at? fr.bx j:=by
     rw[← BE];exact BP fr.bx [_]
    simpa only[Fr.f,BP,e1] using h2
   obtain⟨g',le',s',f',i'⟩:=Jj hw ps (i:=i+1) hp.2 hA hap.2 hS' hR' h3 ⟨fun j hj=>by
     simp only[Aqs,Ar9] at hj;rw[Sg.box_ne _ _ (by omega),hβ]
     exact hf.β j (by omega),fun j hj=>by
     simp only[Aqs,AqD] at hj;show g1.ρ j=none;rw[out j (by omega)]
     exact hf.ρ j (by omega)⟩ (.inl fun j b hb=>by
     rw[Ef] at hb;split at hb
     ·exact hnor (by simp) j b hb
     ·have:at? [some (⟨false,(Aa .ro s x.1 fr.rw.length).1⟩:Bn)] (j-fr.bx.length)=some b:=hb;cases hj:j-fr.bx.length with
      | zero=>rw[hj] at this;cases this;rfl
      | succ n=>rw[hj] at this;cases this) hu' (fun k' hk'=>by
     have hk2:Own (more fr.rw.length (Aa .ro s x.1 fr.rw.length).2 (at? fr.rw)) g1 k':=by rw[← BP];exact hk'
     exact hdr k' (Ue (fun r hr=>by rw[BM s r hr];rfl) out hk2))
   have i2:=fin (g1:=g1.box fr.bx.length k) rfl (BV s) (by rw[BV s] at out;exact out) (fun j r q k' _ h2 h3=>by rw[BM s r (AqH h2)] at h3;cases h3) i'
   exact⟨g',(le.trans (Sg.le_box hi k)).trans le',s',f',i2⟩
theorem Ec {mi:Md}:∀ (ps:List (PM×Sh)) {i:Nat} {fr:Fr} {x:AT ps},(∀ j b,at? fr.bx j=some b→b.own=false)→∀ j b,at? (Af mi ps i fr x).bx j=some b→b.own=false
 | [],_,_,_,h=>h
 | (m,s) :: ps,i,fr,x,h=>by
  cases m with
  | ro=>exact Ec ps (i:=i+1) h
  | mv=>exact Ec ps (i:=i+1) h
  | io=>exact Ec ps (i:=i+1) h
  | cap =>
   refine Ec ps (i:=i+1) fun j b hb=>?_;have hb':at? (fr.bx++[some ⟨false,(Aa .ro s x.1 fr.rw.length).1⟩]) j=some b:=hb;rw[Ef] at hb';split at hb'
   ·exact h j b hb'
   ·cases hj:j-fr.bx.length with
    | zero=>rw[hj] at hb';cases hb';rfl
    | succ n=>rw[hj] at hb';cases hb'
def Cx.withIo (C:Cx) (S:FP) (J:Nat→Option B3):Cx:={ C with io:=J,S:=S }
variable {S:FP} {J:Nat→Option B3}
theorem LfR.withIo:∀ {l:Lf} {u:Value},LfR C g l u→LfR (C.withIo S J) g l u:=fun {l u} h=>by cases l<;>exact h
theorem AC.withIo:∀ {ls:List Lf} {us:List Value},AC C g ls us→AC (C.withIo S J) g ls us
 | [],_,h=>h
 | _ :: _,_,⟨u,t,e,h,r⟩=>⟨u,t,e,h.withIo,r.withIo⟩
theorem FI.withIo {cs:List Lf}:∀ {o:Obj},FI C g cs o→FI (C.withIo S J) g cs o
 | .cells _ _ _,h=>⟨h.1,h.2.withIo⟩
 | .map _ _,h=>h
theorem VR.withIo {ag:Bool} {cs:List Lf} {u:Value} (h:VR C g ag cs u):VR (C.withIo S J) g ag cs u:=by
 obtain⟨us,e,r,l⟩:=h;exact⟨us,e,r.withIo,l⟩
theorem B1.withIo:∀ {vs:List (Bool×List Lf)} {us:List Value},B1 C g vs us→B1 (C.withIo S J) g vs us
 | [],_,h=>h
 | _ :: _,_,⟨u,t,e,h,r⟩=>⟨u,t,e,h.withIo,r.withIo⟩
theorem AVR.withIo:∀ {v:AV} {u:Value},AVR C g a v u→AVR (C.withIo S J) g a v u
 | .v _ _,_,h=>VR.withIo h
 | .tup _,_,⟨us,e,h⟩=>⟨us,e,h.withIo⟩
 | .grd _ _ _ _,_,⟨h1,h2,h3⟩=>⟨fun hb=>(h1 hb).withIo,h2,h3⟩
theorem Sim.toIo {A B:Fr} (h:Sim C B.f g a w) (hk:Hx S C.w0 w) (hS:∀ j r q k,at? B.rw j=some r→r.m.mine=true→g.ρ j=some q→q.F k→C.w0.heap.size≤k∨S k) (hr:Pl A B) (hio:∀ j r q,at? A.rw j=some r→r.m=.io→g.ρ j=some q→J j=some q) (htie:∀ j q,J j=some q→g.ρ j=some q) (hno:∀ j b,at? B.bx j=some b→b.own=false):Sim (C.withIo S J) A.f g a w:=by
 have back:∀ j r,at? A.rw j=some r→∃ r0,at? B.rw j=some r0∧r0.m.mine=r.m.mine∧(r=r0∨(r={ r0 with m:=.io }∧r0.m=.own)):=by
  intro j r hj;rcases hr.rw j with e | ⟨r0,e1,e2,e3⟩
  ·exact⟨r,e▸hj,rfl,.inl rfl⟩
  ·rw[e1] at hj;cases hj;exact⟨r0,e2,by rw[e3];rfl,.inr ⟨rfl,e3⟩⟩
 have forth:∀ j r0,at? B.rw j=some r0→r0.m.mine=true→∃ r,at? A.rw j=some r∧r.m.mine=true∧r.s.n=r0.s.n:=by
  intro j r0 hj hm;rcases hr.rw j with e | ⟨r1,e1,e2,e3⟩
  ·exact⟨r0,e.trans hj,hm,rfl⟩
  ·rw[hj] at e2;cases e2;exact⟨_,e1,rfl,rfl⟩
 refine⟨h.nodef,h.size.trans hr.nt.symm,by show Up A.sl;rw[hr.sl];exact h.up,hk,fun t v hv=>AVR.withIo (h.slots t v (by change lkp A.sl t=some v at hv;rw[hr.sl] at hv;exact hv)),fun i b hb=>?_,fun i j b b' k h1 h2=>?_,fun j r hj=>?_,fun i j r r' q q' k h1 h2 m1 m2=>?_,fun i r q j b k h1 m1 hq hb=>?_,htie,h.tie⟩
 ·change at? A.bx i=some b at hb;rw[hr.bx] at hb;obtain⟨k,o,h1,h2,h3,_,h4⟩:=h.boxes i b hb;exact⟨k,o,h1,h2,h3.withIo,(fun ho=>by rw[hno i b hb] at ho;cases ho),h4⟩
 ·change at? A.bx i=some b at h1;change at? A.bx j=some b' at h2;rw[hr.bx] at h1 h2;exact h.bdisj i j b b' k h1 h2
 ·obtain⟨r0,h1,h2,h3⟩:=back j r hj;obtain⟨q,A',n,c,hq,hv,hz,hl,hZ⟩:=h.rows j r0 h1;rcases h3 with e | ⟨e,e'⟩
  ·subst e;refine⟨q,A',n,c,hq,hv,hz,hl,?_⟩;unfold B4 at hZ ⊢;split at hZ
   ·rename_i em;exact⟨hZ.1,fun k hk'=>hS j r q k h1 (by rw[em];rfl) hq hk'⟩
   ·rename_i em;exact⟨hZ.1,fun k hk'=>hS j r q k h1 (by rw[em];rfl) hq hk',hio j r q hj em hq⟩
   ·exact hZ
   ·obtain⟨z1,rp,qp,z2,z3,z4,z5,z6⟩:=hZ;obtain⟨rp',y1,y2,y3⟩:=forth _ rp z2 z3;exact⟨z1,rp',qp,y1,y2,z4,z5,fun jj off e=>by
     obtain⟨A1,n1,c1,w1,w2,w3,w4,w5⟩:=z6 jj off e;exact⟨A1,n1,c1,w1,w2,w3,by rw[y3];exact w4,by rw[y3];exact w5⟩⟩
  ·subst e;refine⟨q,A',n,c,hq,hv,hz,hl,?_⟩;rw[B4,e'] at hZ;exact⟨hZ.1,fun k hk'=>hS j r0 q k h1 (by rw[e'];rfl) hq hk',hio j _ q hj rfl hq⟩
 ·obtain⟨r1,e1,e2,_⟩:=back i r h1;obtain⟨r2,e3,e4,_⟩:=back j r' h2;exact h.rdisj i j r1 r2 q q' k e1 e3 (e2.trans m1) (e4.trans m2)
 ·obtain⟨r1,e1,e2,_⟩:=back i r h1;change at? A.bx j=some b at hb;rw[hr.bx] at hb;exact h.rbox i r1 q j b k e1 (e2.trans m1) hq hb
end Go.Proofs.YteheolldcpjkcaaGreat.X
