/- The plain law of ConflictOf: both sides give the first two marks that are in conflict. -/
import Derived.Test.YteheolldcpjkcaaGreatQuMS
namespace Go.Proofs.YteheolldcpjkcaaGreat.X
open Go
set_option linter.unusedSimpArgs false
set_option linter.unusedVariables false
def Cv (f:Int) (l:Lt) (g:List Mo) (ms:List Ma):Int×Int×Int:=bif AB f l g (AA ms) != 0 then (0,0,AB f l g (AA ms)) else bif (cfO l (Ax l g) ms 0 ms).2.2 then ((cfO l (Ax l g) ms 0 ms).1,(cfO l (Ax l g) ms 0 ms).2.1,0) else (0,0,4)
theorem AaO (f:Int) (l:Lt) {g:List Mo} (hn:g.length≤1048576) {ms:List Ma} (hm:ms.length≤1048576):Ag2 KK f l g ms=some (Cv f l g ms):=by
 unfold Ag2 Cv;rw[HZ f l hn hm,oB];cases h:AB f l g (AA ms) != 0
 ·have h0:AB f l g (AA ms)=0:=by simpa using h
  obtain⟨hG,hb⟩:=BJ h0;obtain⟨hv,hl⟩:=Dq hb;rw[cF,cF,CO hG,oB,GG hG.la (Ca l g) hv (by omega),oB]
  cases (cfO l (Ax l g) ms 0 ms).2.2<;>rfl
 ·rfl
theorem AaP (f:Int) (l:Lt) {g:List Mo} (hn:g.length≤1048576) (ms:List Ma):Ag1 KK f l g ms=some (Cv f l g ms):=by
 unfold Ag1 Cv;rw[Fl f l hn,oB];cases h:AB f l g (AA ms) != 0
 ·have h0:AB f l g (AA ms)=0:=by simpa using h
  obtain⟨hG,hb⟩:=BJ h0;obtain⟨hv,hl⟩:=Dq hb;rw[cF,cF,HJ hG hv (by omega),oB]
  cases (cfO l (Ax l g) ms 0 ms).2.2<;>rfl
 ·rfl
end Go.Proofs.YteheolldcpjkcaaGreat.X
