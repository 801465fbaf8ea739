/- Sn3, Rdf (what is wanted of them). -/
import Derived.Test.YtgoeccemfgniiaaGreatUSn1
import Derived.Test.YtgoeccemfgniiaaGreatURds
import Derived.Test.YtgoeccemfgniiaaGreatUSn2
namespace Go.Proofs.YtgoeccemfgniiaaGreat
open Go.RowKit
set_option linter.unusedVariables false
set_option linter.unusedSimpArgs false
set_option maxRecDepth 100000
set_option maxHeartbeats 1000000
/-- One round of the sum. -/
def sumStep (x:Int):Int:=if x % 2=1 then bitI .xor .i64 (x / 2) 3988292384 else x / 2
def sumBits:Nat→Int→Int
  |0,x=>x
  |n+1,x=>sumBits n (sumStep x)
def sumByte (x b:Int):Int:=sumBits 8 (bitI .xor .i64 x b)
def sumFrom (s:ByteArray) (n:Nat) (x:Int):Nat→Int
  |0=>x
  |k+1=>sumByte (sumFrom s n x k) (bytB s k)
def sumB (s:ByteArray):Int:=bitI .xor .i64 (sumFrom s 0 4294967295 s.size) 4294967295
theorem pow_nonneg (n:Int) (i:Nat) (h:0≤n):0≤n / 256 ^ i:=Int.ediv_nonneg h (Int.pow_nonneg (by decide))
end Go.Proofs.YtgoeccemfgniiaaGreat
namespace Go.Proofs.YtgoeccemfgniiaaGreat
open Go.RowKit
set_option maxRecDepth 100000
def berth:ByteArray:=⟨#[66,69,82,84,72]⟩
/-- Four bytes as a number. -/
def le4 (s:ByteArray) (p:Nat):Int:=bytB s p+256*bytB s (p+1)+65536*bytB s (p+2)+16777216*bytB s (p+3)
/-- The high ones, down to k. -/
def hiN (s:ByteArray) (p:Nat) (k:Nat):Int:=(if k≤3 then bytB s (p+3) else 0)*256 ^ (3 - k)+(if k≤2 then bytB s (p+2) else 0)*256 ^ (2 - k)+(if k≤1 then bytB s (p+1) else 0)*256 ^ (1 - k)+(if k≤0 then bytB s p else 0)
/-- A frame: its version and its payload; or why there is none. -/
def frR (s:ByteArray):(Int × ByteArray) × Int:=
  if s.size < 14 then ((0,⟨#[]⟩),1)
  else if eqB (s.extract 0 5) berth=false then ((0,⟨#[]⟩),2)
  else if inB (bytB s 5) 1 9=false then ((0,⟨#[]⟩),3)
  else if ¬ (le4 s 6=(s.size:Int) - 14∧(s.size:Int) - 14≤19980) then ((0,⟨#[]⟩),4)
  else if ¬ le4 s (s.size - 4)=sumB (s.extract 0 (s.size - 4)) then ((0,⟨#[]⟩),5)
  else ((bytB s 5,s.extract 10 (s.size - 4)),0)
structure Frm (s:ByteArray) (v:Int) (t:ByteArray) (code:Int):Prop where
  eq:frR s=((v,t),code)
theorem Frm.same {s t t':ByteArray}{v v' c c':Int} (h:Frm s v t c) (h':Frm s v' t' c'):v' = v∧t' = t∧c' = c:=by
  have:=h.eq.symm.trans h'.eq
  injection this with e1 e2
  injection e1 with e3 e4
  exact ⟨e3.symm,e4.symm,e2.symm⟩
end Go.Proofs.YtgoeccemfgniiaaGreat
namespace Go.Proofs.YtgoeccemfgniiaaGreat
open Go.RowKit
def at2 (s:ByteArray):ClusterD × Bool:=cond (up23 s).2 (rdC (up23 s).1) (zeroC,false)
def at1 (s:ByteArray):ClusterD × Bool:=cond (up12 s).2 (at2 (up12 s).1) (zeroC,false)
def rdAt (s:ByteArray) (k:Int):ClusterD × Bool:=if k=1 then at1 s else if k=2 then at2 s else if k=3 then rdC s else (zeroC,false)
def rdSt (s:ByteArray):ClusterD × Int:=
  if ¬ (frR s).2=0 then (zeroC,(frR s).2)
  else if 3 < (frR s).1.1 then (zeroC,6)
  else cond (rdAt (frR s).1.2 (frR s).1.1).2 ((rdAt (frR s).1.2 (frR s).1.1).1,0) (zeroC,7)
structure St8 (s:ByteArray) (c:ClusterD) (code:Int):Prop where
  eq:rdSt s=(c,code)
theorem St8.same {s:ByteArray}{c c':ClusterD}{k k':Int} (h:St8 s c k) (h':St8 s c' k'):c' = c∧k' = k:=by
  have:=h.eq.symm.trans h'.eq
  injection this with e1 e2
  exact ⟨e1.symm,e2.symm⟩
end Go.Proofs.YtgoeccemfgniiaaGreat
