/- Splitting a text into words, and reading numbers from words, as the reference does it. -/
import Derived.Test.YtelgaemfnhnbmaaGreatDoorQtSA
import Derived.Test.YtelgaemfnhnbmaaGreatDoorQzXRow
namespace Go.Proofs.YtelgaemfnhnbmaaGreatDoor.X
open Go
set_option linter.unusedSimpArgs false
set_option linter.unusedVariables false
theorem get_in {l:List UInt8} {i:Nat} (h:i<l.length):l.getD i 0=l[i]:=by simp[List.getD,h]
theorem le1 {q n:Nat} (h:q≤n):decide ((q:Int)≤(n:Int))=true:=by simp;omega
theorem sz_mk (l:List UInt8):((mk l).size:Int)=(l.length:Int):=by rw[mk_size]
theorem ex_nat (l:List UInt8) (i j:Nat):(mk l).extract ((i:Int)).toNat ((j:Int)).toNat=mk ((l.take j).drop i):=by
 rw[Int.toNat_natCast,Int.toNat_natCast,mk_ext]
theorem dig_str {n:Nat} (h:n<10):strOfNums [(IntKind.u8.wrap (w ((48:Int)+(n:Int))))]=mk [UInt8.ofNat (48+n)]:=by
 rw[w_id (by omega) (by omega)]
 have e:IntKind.u8.wrap (48+(n:Int))=((48+n:Nat):Int):=by
  rw[IntKind.wrap_u8];omega
 rw[e];rfl
theorem dec_run:∀ (k f n:Nat),n<10 ^ (k+1)→k<f→k<12→f83R KK f (n:Int)=some (mk (Lib.decDigits n))
 | k,0,n,_,hf,_=>by omega
 | k,f+1,n,hn,hf,hk=>by
  show f83_s KK (f83R KK f) (n:Int)=_;unfold f83_s;by_cases h:n<10
  ·rw[dT (show (n:Int)<10 by omega),cT,dig_str h,dec_one h]
  ·rw[dF (show ¬ (n:Int)<10 by omega),cF]
   have hp:(10:Nat) ^ (k+1)≤10 ^ 12:=Nat.pow_le_pow_right (by decide) (by omega)
   have hp2:(10:Nat) ^ 12=1000000000000:=by decide
   have e1:(n:Int).tdiv 10=((n / 10:Nat):Int):=by rw[Int.tdiv_eq_ediv_of_nonneg (by omega)];omega
   have e2:(n:Int).tmod 10=((n % 10:Nat):Int):=by rw[Int.tmod_eq_emod_of_nonneg (by omega)];omega
   rw[e1,e2,w_id (n:=((n / 10:Nat):Int)) (by omega) (by omega),dig_str (by omega)]
   cases k with
   | zero=>omega
   | succ k =>
    have hl:=dec_lt k (n / 10) (by rw[Nat.pow_succ] at hn;omega)
    rw[dec_run k f (n / 10) (by rw[Nat.pow_succ] at hn;omega) (by omega) (by omega),oB,mk_size,mk_size,show Nat.ble ((Lib.decDigits (n / 10)).length+[UInt8.ofNat (48+n % 10)].length) 9223372036854775807=true by rw[Nat.ble_eq];simp only[List.length_singleton];omega,cT,mk_app,dec_step h]
theorem ten11:(10:Nat) ^ (10+1)=100000000000:=by decide
theorem dec_eq {n:Nat} (h:n<100000000000):f83G KK (n:Int)=some (mk (Lib.decDigits n)) :=
 dec_run 10 KK n (by rw[ten11];exact h) (by simp only[KK];omega) (by omega)
theorem isD_cmp (b:UInt8):(bif decide (((b.toNat:Nat):Int)<(48:Int)) then true else decide (((b.toNat:Nat):Int)>(57:Int)))=!isD b:=by
 unfold isD;by_cases h1:b.toNat<48
 ·rw[dT (show ((b.toNat:Nat):Int)<48 by omega),dF (show ¬ 48≤b.toNat by omega)]
  rfl
 ·rw[dF (show ¬ ((b.toNat:Nat):Int)<48 by omega),dT (show 48≤b.toNat by omega),cF]
  by_cases h2:b.toNat≤57
  ·rw[dT h2,dF (by omega)]
   rfl
  ·rw[dF h2,dT (by omega)]
   rfl
def rds:List (List UInt8)→Option (List Int)
 | []=>some []
 | x :: r=>match rd x,rds r with
  | some v,some vs=>some (v :: vs)
  | _,_=>none
def rdR (ws:List (List UInt8)) (out:List Int):List Int×Bool:=match rds ws with
 | some vs=>(out++vs,true)
 | none=>([],false)
theorem rds_len:∀ {ws:List (List UInt8)} {vs:List Int},rds ws=some vs→vs.length=ws.length
 | [],vs,h=>by cases h;rfl
 | x :: r,vs,h=>by
  rw[rds] at h;split at h
  ·rename_i v us h1 h2;cases h;simp[rds_len h2]
  ·cases h
theorem gd_map {ws:List (List UInt8)} {q:Nat} (h:q<ws.length):(ws.map mk).getD ((0:Int)+(q:Int)).toNat ByteArray.empty=mk ws[q]:=by
 rw[gd (by rw[List.length_map];exact h),List.getElem_map]
theorem len_map (ws:List (List UInt8)):((ws.map mk).length:Int)=(ws.length:Int):=by rw[List.length_map]
end Go.Proofs.YtelgaemfnhnbmaaGreatDoor.X
