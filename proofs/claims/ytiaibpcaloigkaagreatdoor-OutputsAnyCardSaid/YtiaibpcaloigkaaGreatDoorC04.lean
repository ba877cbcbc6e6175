/- Part 4 of the proof. -/
import Derived.WalkKit
import Derived.Lib.Hide
import Derived.Deep.Draws
import Derived.Laws.Rows
import Derived.Lib.AppendZeros
import Derived.Lib.AppendZerosOnto
import Derived.Lib.Walk
import Derived.Lib.SliceRun
import Derived.OwnWalk
import Derived.Test.YtiaibpcaloigkaaGreatDoorProg
import Derived.Shelf.Small.Bits
import Derived.Shelf.Strconv.Itoa0
import Derived.Shelf.Bits.Mul64
import Derived.Lib.ItoaNum
import Derived.Laws.BitsAllLaws
set_option linter.unusedSimpArgs false
set_option linter.unusedVariables false
set_option maxHeartbeats 8000000
namespace Go.Proofs.YtiaibpcaloigkaaGreatDoor
theorem Kr {p:Prop} (h:p:=by kernel_rfl):p:=h
section
def wd (i n:Nat):Nat :=
 match i with
 | 0=>n%18446744073709551616
 | 1=>n / 18446744073709551616%18446744073709551616
 | 2=>n / 340282366920938463463374607431768211456%18446744073709551616
 | _=>n / 6277101735386680763835789423207666416102355444464034512896%18446744073709551616
def td (a b c d:Nat):Nat :=
 a+18446744073709551616*b+340282366920938463463374607431768211456*c+6277101735386680763835789423207666416102355444464034512896*d
def zd:Nat:=115792089237316195423570985008687907853269984665640564039457584007913129639936
theorem yd (i n:Nat):wd i n<18446744073709551616:=by
 unfold wd;split<;>exact Nat.mod_lt _ (by omega)
theorem ah4 (i n:Nat):wd i n≤18446744073709551615:=by have:=yd i n;omega
theorem kG {a b c d:Nat} (ha:a<18446744073709551616) (hb:b<18446744073709551616) (hc:c<18446744073709551616) (hd:d<18446744073709551616) :
  wd 0 (td a b c d)=a∧wd 1 (td a b c d)=b∧wd 2 (td a b c d)=c∧wd 3 (td a b c d)=d:=by
 simp only[wd,td];omega
theorem vO {n:Nat} (h:n<zd):td (wd 0 n) (wd 1 n) (wd 2 n) (wd 3 n)=n:=by
 simp only[wd,td,zd] at *;omega
theorem kY {a b c d:Nat} (ha:a<18446744073709551616) (hb:b<18446744073709551616) (hc:c<18446744073709551616) (hd:d<18446744073709551616) :
  td a b c d<zd:=by simp only[td,zd];omega
theorem ads {m n:Nat} (hm:m<zd) (hn:n<zd) (h0:wd 0 m=wd 0 n) (h1:wd 1 m=wd 1 n) (h2:wd 2 m=wd 2 n) (h3:wd 3 m=wd 3 n):m=n:=by
 rw[← vO hm,← vO hn,h0,h1,h2,h3]
abbrev zc (n:Nat):List Value:=[.int .u64 ((wd 0 n:Nat):Int),.int .u64 ((wd 1 n:Nat):Int),.int .u64 ((wd 2 n:Nat):Int),.int .u64 ((wd 3 n:Nat):Int)]
abbrev zj (n:Nat):Value:=.agg #[.int .u64 ((wd 0 n:Nat):Int),.int .u64 ((wd 1 n:Nat):Int),.int .u64 ((wd 2 n:Nat):Int),.int .u64 ((wd 3 n:Nat):Int)]
theorem ny {a b c d:Nat} (ha:a<18446744073709551616) (hb:b<18446744073709551616) (hc:c<18446744073709551616) (hd:d<18446744073709551616) :
  Value.agg #[.int .u64 (a:Int),.int .u64 (b:Int),.int .u64 (c:Int),.int .u64 (d:Int)]=zj (td a b c d):=by
 obtain⟨e0,e1,e2,e3⟩:=kG ha hb hc hd;simp only[zj,e0,e1,e2,e3]
theorem db (a b:Nat) (ha:a<zd) (hb:b<zd) (s0 s1 s2 s3 c0 c1 c2 c3:Nat)
  (e0:s0=(wd 0 a+wd 0 b)%18446744073709551616) (f0:c0=(wd 0 a+wd 0 b) / 18446744073709551616)
  (e1:s1=(wd 1 a+wd 1 b+c0)%18446744073709551616) (f1:c1=(wd 1 a+wd 1 b+c0) / 18446744073709551616)
  (e2:s2=(wd 2 a+wd 2 b+c1)%18446744073709551616) (f2:c2=(wd 2 a+wd 2 b+c1) / 18446744073709551616)
  (e3:s3=(wd 3 a+wd 3 b+c2)%18446744073709551616) (f3:c3=(wd 3 a+wd 3 b+c2) / 18446744073709551616) :
  td s0 s1 s2 s3=(a+b)%zd∧c3=(a+b) / zd:=by
 have h1:=vO ha;have h2:=vO hb;have:=yd 0 a;have:=yd 1 a;have:=yd 2 a;have:=yd 3 a;have:=yd 0 b;have:=yd 1 b;have:=yd 2 b;have:=yd 3 b;generalize wd 0 a=a0 at *;generalize wd 1 a=a1 at *;generalize wd 2 a=a2 at *;generalize wd 3 a=a3 at *;generalize wd 0 b=b0 at *;generalize wd 1 b=b1 at *;generalize wd 2 b=b2 at *;generalize wd 3 b=b3 at *;simp only[td,zd] at *;omega
end
section
namespace Sha
def M:Nat:=4294967296
def rotr (n x:Nat):Nat:=(x / 2 ^ n) ||| (x*2 ^ (32 - n)%4294967296)
def sig0 (x:Nat):Nat:=rotr 7 x ^^^ rotr 18 x ^^^ (x / 8)
def sig1 (x:Nat):Nat:=rotr 17 x ^^^ rotr 19 x ^^^ (x / 1024)
def Sig0 (x:Nat):Nat:=rotr 2 x ^^^ rotr 13 x ^^^ rotr 22 x
def Sig1 (x:Nat):Nat:=rotr 6 x ^^^ rotr 11 x ^^^ rotr 25 x
def ch (e f g:Nat):Nat:=g ^^^ (e &&& (f ^^^ g))
def maj (a b c:Nat):Nat:=(a &&& b) ^^^ (a &&& c) ^^^ (b &&& c)
def K:List Nat:=[
 0x428a2f98,0x71374491,0xb5c0fbcf,0xe9b5dba5,0x3956c25b,0x59f111f1,0x923f82a4,0xab1c5ed5,
 0xd807aa98,0x12835b01,0x243185be,0x550c7dc3,0x72be5d74,0x80deb1fe,0x9bdc06a7,0xc19bf174,
 0xe49b69c1,0xefbe4786,0x0fc19dc6,0x240ca1cc,0x2de92c6f,0x4a7484aa,0x5cb0a9dc,0x76f988da,
 0x983e5152,0xa831c66d,0xb00327c8,0xbf597fc7,0xc6e00bf3,0xd5a79147,0x06ca6351,0x14292967,
 0x27b70a85,0x2e1b2138,0x4d2c6dfc,0x53380d13,0x650a7354,0x766a0abb,0x81c2c92e,0x92722c85,
 0xa2bfe8a1,0xa81a664b,0xc24b8b70,0xc76c51a3,0xd192e819,0xd6990624,0xf40e3585,0x106aa070,
 0x19a4c116,0x1e376c08,0x2748774c,0x34b0bcb5,0x391c0cb3,0x4ed8aa4a,0x5b9cca4f,0x682e6ff3,
 0x748f82ee,0x78a5636f,0x84c87814,0x8cc70208,0x90befffa,0xa4506ceb,0xbef9a3f7,0xc67178f2]
def H0:List Nat:=[0x6a09e667,0xbb67ae85,0x3c6ef372,0xa54ff53a,0x510e527f,0x9b05688c,0x1f83d9ab,0x5be0cd19]
def w16 (b:List Nat) (i:Nat):Nat:=(b.getD (4*i) 0)*16777216+(b.getD (4*i+1) 0)*65536+(b.getD (4*i+2) 0)*256+b.getD (4*i+3) 0
def wnext (w:List Nat) (i:Nat):Nat :=
 (w.getD (i - 16) 0+w.getD (i - 7) 0+sig0 (w.getD (i - 15) 0)+sig1 (w.getD (i - 2) 0))%4294967296
def words (b:List Nat):Nat→List Nat
 | 0=>[]
 | i+1=>words b i++[if i<16 then w16 b i else wnext (words b i) i]
def rnd (s:List Nat) (k w:Nat):List Nat :=
 match s with
 | [a,b,c,d,e,f,g,h] =>
  let t:=(h+Sig1 e+ch e f g+k+w)%4294967296
  [(t+Sig0 a+maj a b c)%4294967296,a,b,c,(d+t)%4294967296,e,f,g]
 | _=>s
def rnds (s w:List Nat):Nat→List Nat
 | 0=>s
 | i+1=>rnd (rnds s w i) (K.getD i 0) (w.getD i 0)
def addW (s t:List Nat):List Nat:=List.zipWith (fun x y=>(x+y)%4294967296) s t
def take (s b:List Nat):List Nat:=addW (rnds s (words b 64) 64) s
def takes (s b:List Nat):Nat→List Nat
 | 0=>s
 | n+1=>take (takes s b n) ((b.drop (64*n)).take 64)
def be8 (n:Nat):List Nat:=[n / 72057594037927936%256,n / 281474976710656%256,n / 1099511627776%256,n / 4294967296%256,n / 16777216%256,n / 65536%256,n / 256%256,n%256]
def pad (n:Nat):Nat:=(119 - n%64)%64
def padded (m:List Nat):List Nat:=m++128::List.replicate (pad m.length) 0++be8 (8*m.length%18446744073709551616)
def outs (s:List Nat):List Nat:=s.flatMap fun x=>[x / 16777216%256,x / 65536%256,x / 256%256,x%256]
def sum (m:List Nat):List Nat:=outs (takes H0 (padded m) ((padded m).length / 64))
end Sha
end
section
open Go.RowKit
def Blk (w:World) (g:Nat) (t:TypeId) (cs:List Value):Prop:=w.heap[g]?=some (.cells cs.toArray t (0,0))
section
variable {w w' : World} {g:Nat} {t:TypeId} {cs:List Value}
theorem Blk.lt (h:Blk w g t cs):g<w.heap.size:=by
 rcases Nat.lt_or_ge g w.heap.size with hlt|hge
 ·exact hlt
 ·unfold Blk at h;rw[Array.getElem?_eq_none hge] at h;cases h
theorem Blk.cell (h:Blk w g t cs) (i:Nat):w.cell? ⟨g,i,none⟩=cs[i]?:=by
 rw[cell_of_row w g i cs.toArray t (0,0) h];simp
theorem Blk.cell_at (h:Blk w g t cs) {i:Nat} {v:Value} (hv:cs[i]?=some v):w.cell? ⟨g,i,none⟩=some v:=(h.cell i).trans hv
theorem Blk.frozen (h:Blk w g t cs) (i:Nat):w.frozen? ⟨g,i,none⟩=false:=by
 unfold Blk at h;simp[World.frozen?,h]
theorem Blk.new (w:World) (t:TypeId) (cs:List Value):Blk (w.alloc (.cells cs.toArray t)) w.heap.size t cs:=heap_alloc_new w _
theorem Blk.new' {t:TypeId} {cs:List Value} (h:w.heap.size=g):Blk (w.alloc (.cells cs.toArray t)) g t cs:=h ▸ Blk.new w t cs
theorem Blk.drew (h:Blk w g t cs):Blk w.drew g t cs:=h
theorem Blk.drewN (h:Blk w g t cs) (n:Nat):Blk (w.drewN n) g t cs:=h
theorem Blk.alloc (h:Blk w g t cs) (o:Obj):Blk (w.alloc o) g t cs:=(Below.heap_alloc w o g h.lt).trans h
theorem Blk.set_ (h:Blk w g t cs) (i:Nat) (u:Value):Blk (w.setCell ⟨g,i,none⟩ u) g t (cs.set i u):=by
 unfold Blk at h ⊢;simp[World.setCell,Array.getElem?_modify,h]
theorem Blk.put4 {a b c d:Value} (h:Blk w g t [a,b,c,d]) (u0 u1 u2 u3:Value) :
  Blk ((((w.setCell ⟨g,0,none⟩ u0).setCell ⟨g,1,none⟩ u1).setCell ⟨g,2,none⟩ u2).setCell ⟨g,3,none⟩ u3) g t [u0,u1,u2,u3]:=(((h.set_ 0 u0).set_ 1 u1).set_ 2 u2).set_ 3 u3
theorem Blk.far (h:Blk w g t cs) {p:Addr} (hp:g≠p.block) (u:Value):Blk (w.setCell p u) g t cs:=(Below.heap_setCell w p u g hp).trans h
theorem Blk.below {B:Nat} (h:Blk w g t cs) (hb:Below B w w') (hg:g<B):Blk w' g t cs:=(hb.block g hg).trans h
theorem Blk.grown {row:Option Nat} (h:Blk w g t cs) (hb:w.grownBy w' row) (hg:some g≠row):Blk w' g t cs:=(hb.block g h.lt hg).trans h
end
theorem ahd {B:Nat} {W w1:World} (hb:Below B W w1):(∀ b o,b<B→w1.cell? ⟨b,o,none⟩=W.cell? ⟨b,o,none⟩)∧(∀ b o,b<B→w1.frozen? ⟨b,o,none⟩=W.frozen? ⟨b,o,none⟩) :=
 ⟨fun b o h=>hb.cell (p:=⟨b,o,none⟩) h,fun b o h=>hb.frozen (p:=⟨b,o,none⟩) h⟩
abbrev Ext (w w' : World):Prop:=Below w.heap.size w w'
theorem Ext.rfl' (w:World):Ext w w:=Below.refl _ _
theorem Ext.trans' {a b c:World} (h:Ext a b) (k:Ext b c):Ext a c:=h.trans (k.mono h.size)
theorem Ext.alloc' {a b:World} (h:Ext a b) (o:Obj):Ext a (b.alloc o):=h.alloc h.size o
theorem Below.drewN' {B:Nat} {a w:World} (h:Below B a w) (n:Nat):Below B a (w.drewN n):=⟨h.os,h.tape,h.output,h.size,h.block⟩
end
end Go.Proofs.YtiaibpcaloigkaaGreatDoor
namespace Go.Proofs.YtiaibpcaloigkaaGreatDoor
open Go.RowKit
set_option maxRecDepth 100000 in
theorem ru (n:Nat) (h0:0<n) (hn:n≤1099511627776) (w:World) :
  Calls Tryz.prog 262 #[.slice none 0 0,.int .i64 (n:Int)] w fun e w'=>∃ v,e=.returned v∧w'.ownsRow w.heap.size 22 1 v 0 []∧Below w.heap.size w w':=by
 have hinfo:(Tryz.prog.info? 22).map (fun i=>(i.zero,i.size,i.bytes))=some (some (.int .u64 0),1,8):=Kr
 obtain⟨i0,hi,hz0,hz1,hz2⟩:=info_parts hinfo;have hr:=fun ty=>Lib.run_append_nil_zeros (P:=Tryz.prog) w 201 3 ty 22 i0 (.int .u64 0) .i64 .i64 Tryz.underlying201 Tryz.underlying3 hi hz0 n h0 (by omega) (by omega) (by rw[hz2];omega);have hge:=grownCap_ge w n 0 22;have hml:=grownCap_le_maxLen w n 0 22 (by simp[maxLen];omega);generalize grownCap w n 0 22=G at *;have hG63:G≤9223372036854775807:=by unfold maxLen at hml;omega
 have HM:=Lib.hid hml;clear hml
 go_enter Tryz.func262,Tryz.ntmps262
 go_wp2_with (at_builtin;refine Lib.wpList_append_run _ rfl _ _ _ _ rfl _ _ rfl rfl _ _ (hr _) ?_)
 go_ret
 refine⟨_,rfl,?_,(Below.refl _ _).drew.alloc (Nat.le_refl _) _⟩;refine⟨rfl,.inr ⟨w.heap.size,_,_,rfl,Nat.le_refl _,heap_alloc_new w.drew _,by omega,HM.out,?_,by simp⟩⟩;rw[Array.size_append,size_zeroCells,size_zeroCells];show n*1+(G - n)*1=G*1;omega
end Go.Proofs.YtiaibpcaloigkaaGreatDoor
namespace Go.Proofs
open Go.Shelf
def Tryz.lays125_ren:Go.Shelf.Ren:=⟨fun|125=>206|128=>250|129=>181|n=>n,fun|46=>233|3=>3|51=>79|53=>22|4=>4|5=>5|9=>9|n=>n,fun|n=>n⟩
theorem Tryz.lays125:Go.Proofs.Lays.n125 Tryz.prog Tryz.lays125_ren:={
 mixed:=by kernel_rfl
 f125:=Tryz.func206.trans (congrArg some (by kernel_rfl))
 f128:=Tryz.func250.trans (congrArg some (by kernel_rfl))
 f129:=Tryz.func181.trans (congrArg some (by kernel_rfl))
 t3:=Tryz.underlying3
 a3:=Tryz.isAgg3
 z3:=Tryz.sizeOf3
 v3:=Tryz.zeroValue3
 t4:=Tryz.underlying4
 a4:=Tryz.isAgg4
 z4:=Tryz.sizeOf4
 v4:=Tryz.zeroValue4
 t5:=Tryz.underlying5
 a5:=Tryz.isAgg5
 z5:=Tryz.sizeOf5
 v5:=Tryz.zeroValue5
 t9:=Tryz.underlying9
 a9:=Tryz.isAgg9
 z9:=Tryz.sizeOf9
 v9:=Tryz.zeroValue9
 t46:=Tryz.underlying233
 a46:=Tryz.isAgg233
 z46:=Tryz.sizeOf233
 v46:=Tryz.zeroValue233
 t51:=Tryz.underlying79
 a51:=Tryz.isAgg79
 z51:=Tryz.sizeOf79
 v51:=Tryz.zeroValue79
 t53:=Tryz.underlying22
 a53:=Tryz.isAgg22
 z53:=Tryz.sizeOf22
 v53:=Tryz.zeroValue22 }
theorem Tryz.bits_Len (x:Int) (w:World) (h0:0≤x) (h1:x≤18446744073709551615) :
  Calls Tryz.prog 206 #[.int .u64 x] w fun e w'=>e=.returned (.int .i64 (Lib.bitLen x.toNat))∧w'=w:=Any.bits_Len Tryz.lays125 x w h0 h1
def Tryz.lays134_ren:Go.Shelf.Ren:=⟨fun|134=>221|129=>181|n=>n,fun|53=>22|3=>3|4=>4|46=>233|5=>5|9=>9|n=>n,fun|n=>n⟩
theorem Tryz.lays134:Go.Proofs.Lays.n134 Tryz.prog Tryz.lays134_ren:={
 mixed:=by kernel_rfl
 f129:=Tryz.func181.trans (congrArg some (by kernel_rfl))
 f134:=Tryz.func221.trans (congrArg some (by kernel_rfl))
 t3:=Tryz.underlying3
 a3:=Tryz.isAgg3
 z3:=Tryz.sizeOf3
 v3:=Tryz.zeroValue3
 t4:=Tryz.underlying4
 a4:=Tryz.isAgg4
 z4:=Tryz.sizeOf4
 v4:=Tryz.zeroValue4
 t5:=Tryz.underlying5
 a5:=Tryz.isAgg5
 z5:=Tryz.sizeOf5
 v5:=Tryz.zeroValue5
 t9:=Tryz.underlying9
 a9:=Tryz.isAgg9
 z9:=Tryz.sizeOf9
 v9:=Tryz.zeroValue9
 t46:=Tryz.underlying233
 a46:=Tryz.isAgg233
 z46:=Tryz.sizeOf233
 v46:=Tryz.zeroValue233
 t53:=Tryz.underlying22
 a53:=Tryz.isAgg22
 z53:=Tryz.sizeOf22
 v53:=Tryz.zeroValue22 }
theorem Tryz.bits_LeadingZeros64 (x:Int) (w:World) (h0:0≤x) (h1:x≤18446744073709551615) :
  Calls Tryz.prog 221 #[.int .u64 x] w fun e w'=>e=.returned (.int .i64 (64 - (Lib.bitLen x.toNat:Int)))∧w'=w:=Any.bits_LeadingZeros64 Tryz.lays134 x w h0 h1
def Tryz.lays129_ren:Go.Shelf.Ren:=⟨fun|129=>181|n=>n,fun|53=>22|3=>3|4=>4|46=>233|5=>5|9=>9|n=>n,fun|n=>n⟩
theorem Tryz.lays129:Go.Proofs.Lays.n129 Tryz.prog Tryz.lays129_ren:={
 mixed:=by kernel_rfl
 f129:=Tryz.func181.trans (congrArg some (by kernel_rfl))
 t3:=Tryz.underlying3
 a3:=Tryz.isAgg3
 z3:=Tryz.sizeOf3
 v3:=Tryz.zeroValue3
 t4:=Tryz.underlying4
 a4:=Tryz.isAgg4
 z4:=Tryz.sizeOf4
 v4:=Tryz.zeroValue4
 t5:=Tryz.underlying5
 a5:=Tryz.isAgg5
 z5:=Tryz.sizeOf5
 v5:=Tryz.zeroValue5
 t9:=Tryz.underlying9
 a9:=Tryz.isAgg9
 z9:=Tryz.sizeOf9
 v9:=Tryz.zeroValue9
 t46:=Tryz.underlying233
 a46:=Tryz.isAgg233
 z46:=Tryz.sizeOf233
 v46:=Tryz.zeroValue233
 t53:=Tryz.underlying22
 a53:=Tryz.isAgg22
 z53:=Tryz.sizeOf22
 v53:=Tryz.zeroValue22 }
theorem Tryz.bits_Len64 (x:Int) (w:World) (h0:0≤x) (h1:x≤18446744073709551615) :
  Calls Tryz.prog 181 #[.int .u64 x] w fun e w'=>e=.returned (.int .i64 (Lib.bitLen x.toNat))∧w'=w:=Any.bits_Len64 Tryz.lays129 x w h0 h1
def Tryz.lays264_ren:Go.Shelf.Ren:=⟨fun|264=>183|n=>n,fun|53=>22|46=>233|n=>n,fun|n=>n⟩
theorem Tryz.lays264:Go.Proofs.Lays.n264 Tryz.prog Tryz.lays264_ren:={
 mixed:=by kernel_rfl
 f264:=Tryz.func183.trans (congrArg some (by kernel_rfl))
 t46:=Tryz.underlying233
 a46:=Tryz.isAgg233
 z46:=Tryz.sizeOf233
 v46:=Tryz.zeroValue233
 t53:=Tryz.underlying22
 a53:=Tryz.isAgg22
 z53:=Tryz.sizeOf22
 v53:=Tryz.zeroValue22 }
open Go.RowKit Go.Lib in
theorem Tryz.bits_Mul64 (x y:Nat) (hx:x<18446744073709551616) (hy:y<18446744073709551616) (w:World) :
  Calls Tryz.prog 183 #[.int .u64 x,.int .u64 y] w fun e w'=>e=.returned (.tuple #[.int .u64 ((x*y / 18446744073709551616:Nat):Int),.int .u64 ((x*y%18446744073709551616:Nat):Int)])∧w'=w:=Any.bits_Mul64 Tryz.lays264 x y hx hy w
end Go.Proofs
namespace Go.Proofs.YtiaibpcaloigkaaGreatDoor
section
def zK (a:Nat):Nat:=if a=0 then 0 else a.log2+1
theorem sI {x k:Nat} (hk:1≤k) (h1:2 ^ (k - 1)≤x) (h2:x<2 ^ k):zK x=k:=by
 have hx:x≠0:=by have:=Nat.two_pow_pos (k - 1);omega
 unfold zK;rw[if_neg hx];have a:=(Nat.log2_lt hx).2 h2;have b:=(Nat.le_log2 hx).2 h1;omega
theorem uO {x:Nat} (hx:x≠0):1≤zK x∧2 ^ (zK x - 1)≤x∧x<2 ^ zK x:=by
 unfold zK;rw[if_neg hx];exact⟨by omega,by simpa using Nat.log2_self_le hx,Nat.lt_log2_self⟩
theorem tw (x:Nat):x<2 ^ zK x:=by
 by_cases hx:x=0
 ·subst hx;simp[zK]
 ·exact (uO hx).2.2
theorem vc {x k:Nat} (h:x<2 ^ k):zK x≤k:=by
 by_cases hx:x=0
 ·subst hx;simp[zK]
 ·unfold zK;rw[if_neg hx];have:=(Nat.log2_lt hx).2 h;omega
theorem y6 {x k:Nat}:zK x≤k↔x<2 ^ k :=
 ⟨fun h=>Nat.lt_of_lt_of_le (tw x) (Nat.pow_le_pow_right (by omega) h),vc⟩
theorem bitLen_eq {x:Nat} (h:x<18446744073709551616):Lib.bitLen x=zK x:=by
 by_cases hx:x=0
 ·subst hx;rfl
 ·obtain⟨h1,h2,h3⟩:=Lib.bitLenAux_bounds 64 x h hx;exact (sI h1 h2 h3).symm
theorem tn {x lo s:Nat} (hx:x≠0) (hl:lo<2 ^ s):zK (lo+2 ^ s*x)=s+zK x:=by
 obtain⟨h1,h2,h3⟩:=uO hx;refine sI (by omega) ?_ ?_
 ·rw[show s+zK x - 1=s+(zK x - 1) by omega,Nat.pow_add];have:=Nat.mul_le_mul_left (2 ^ s) h2;omega
 ·rw[Nat.pow_add];have:=Nat.mul_le_mul_left (2 ^ s) h3;rw[Nat.mul_succ] at this;omega
theorem qN {a:Nat} (ha:a<zd) {i:Nat} (hi:i<4) (hz:∀ j,i<j→j<4→wd j a=0) (hx:wd i a≠0):zK a=64*i+zK (wd i a):=by
 have hv:=vO ha;have l0:=yd 0 a;have l1:=yd 1 a;have l2:=yd 2 a;have:i=0∨i=1∨i=2∨i=3:=by omega
 rcases this with rfl|rfl|rfl|rfl
 ·have z1:=hz 1 (by omega) (by omega);have z2:=hz 2 (by omega) (by omega);have z3:=hz 3 (by omega) (by omega);rw[z1,z2,z3] at hv;have e:wd 0 a=a:=by simp only[td] at hv;omega
  rw[e];omega
 ·have z2:=hz 2 (by omega) (by omega);have z3:=hz 3 (by omega) (by omega);rw[z2,z3] at hv;have e:a=wd 0 a+2 ^ 64*wd 1 a:=by simp only[td] at hv;omega
  have:=tn (s:=64) hx (show wd 0 a<2 ^ 64 by omega);rw[← e] at this;omega
 ·have z3:=hz 3 (by omega) (by omega);rw[z3] at hv;have e:a=(wd 0 a+18446744073709551616*wd 1 a)+2 ^ 128*wd 2 a:=by simp only[td] at hv;omega
  have:=tn (s:=128) hx (show wd 0 a+18446744073709551616*wd 1 a<2 ^ 128 by omega);rw[← e] at this;omega
 ·have e:a=(wd 0 a+18446744073709551616*wd 1 a+340282366920938463463374607431768211456*wd 2 a)+2 ^ 192*wd 3 a:=by simp only[td] at hv;omega
  have:=tn (s:=192) hx (show wd 0 a+18446744073709551616*wd 1 a+340282366920938463463374607431768211456*wd 2 a<2 ^ 192 by omega);rw[← e] at this;omega
theorem mR {a:Nat} (ha:a<zd) (hz:∀ j,j<4→wd j a=0):a=0:=by
 have hv:=vO ha;rw[hz 0 (by omega),hz 1 (by omega),hz 2 (by omega),hz 3 (by omega)] at hv;simp[td] at hv;omega
def v6 (a i:Nat):Nat:=a / 2 ^ i%2
theorem rk (a i:Nat):v6 a i≤1:=by unfold v6;omega
theorem iH {a:Nat} (ha:a<zd) (i r:Nat) (hi:i<4) (hr:r<64):wd i a / 2 ^ r%2=v6 a (64*i+r):=by
 unfold v6;rw[Nat.pow_add,← Nat.div_div_eq_div_mul];have:i=0∨i=1∨i=2∨i=3:=by omega
 have gen:∀ n:Nat,n%18446744073709551616 / 2 ^ r%2=n / 2 ^ r%2:=by
  intro n;have e:(18446744073709551616:Nat)=2 ^ r*(2*2 ^ (63 - r)):=by
   rw[← Nat.pow_succ',← Nat.pow_add,show r+(63 - r+1)=64 by omega]
  rw[e,Nat.mod_mul_right_div_self,Nat.mod_mul_right_mod]
 rcases this with rfl|rfl|rfl|rfl<;>simp only[wd,gen]<;>simp
theorem eZ {a:Nat} (ha:a<zd) {i:Nat} (hi:256≤i):v6 a i=0:=by
 unfold v6;have:a / 2 ^ i=0:=Nat.div_eq_of_lt (Nat.lt_of_lt_of_le (show a<2 ^ 256 by unfold zd at ha;omega) (Nat.pow_le_pow_right (by omega) hi));rw[this]
theorem adx (n:Nat) {i:Nat} (h:i<4):wd i n=n / 2 ^ (64*i)%2 ^ 64:=by
 have:i=0∨i=1∨i=2∨i=3:=by omega
 rcases this with rfl|rfl|rfl|rfl<;>simp[wd]
theorem aac (a i:Nat) (h:i<4):a / 2 ^ (64*i)=a / 2 ^ (64*(i+1))*18446744073709551616+wd i a:=by
 rw[adx a h,show 64*(i+1)=64*i+64 by omega,Nat.pow_add,← Nat.div_div_eq_div_mul,show (2:Nat) ^ 64=18446744073709551616 by decide];generalize a / 2 ^ (64*i)=x;omega
def tq (a b k:Nat):Nat:=a / 2 ^ (64*k)%b
theorem jI (a k:Nat) {b:Nat} (hb:0<b):tq a b k<b:=Nat.mod_lt _ hb
theorem cR (a b i:Nat) (h:i<4) (hb:0<b):(tq a b (i+1)*18446744073709551616+wd i a) / b=wd i (a / b)∧(tq a b (i+1)*18446744073709551616+wd i a)%b=tq a b i:=by
 have hs:=aac a i h;have hq:a / b / 2 ^ (64*i)=a / 2 ^ (64*i) / b:=by rw[Nat.div_div_eq_div_mul,Nat.div_div_eq_div_mul,Nat.mul_comm]
 have hw:=yd i a;unfold tq;rw[adx (a / b) h,hq,hs];generalize a / 2 ^ (64*(i+1))=x at *;generalize wd i a=d at *;have e:x*18446744073709551616+d=x%b*18446744073709551616+d+b*(x / b*18446744073709551616):=by
  have:=Nat.div_add_mod x b;have h2:b*(x / b*18446744073709551616)=(b*(x / b))*18446744073709551616:=by rw[Nat.mul_assoc]
  rw[h2];generalize b*(x / b)=y at *;omega
 have hlt:(x%b*18446744073709551616+d) / b<18446744073709551616:=by
  rw[Nat.div_lt_iff_lt_mul hb];have:=Nat.mod_lt x hb;generalize x%b=y at *;have:(y+1)*18446744073709551616≤b*18446744073709551616:=Nat.mul_le_mul_right _ this;rw[Nat.mul_comm b] at this;omega
 rw[e,Nat.add_mul_div_left _ _ hb,Nat.add_mul_mod_self_left];refine⟨?_,rfl⟩;rw[show (2:Nat) ^ 64=18446744073709551616 by decide,Nat.add_mul_mod_self_right,Nat.mod_eq_of_lt hlt]
theorem dJ {a b:Nat} (ha:a<zd):tq a b 4=0:=by
 unfold tq;rw[Nat.div_eq_of_lt (by simpa [zd] using ha)];simp
theorem gr (a b:Nat):tq a b 0=a%b:=by simp[tq]
def qc (D k j:Nat):Nat:=if j<k then 0 else wd j D
def vi (D m:Nat):Nat:=D / 2 ^ m*2 ^ m
theorem tK (D:Nat):vi D 0=D:=by simp[vi]
theorem dX {D m:Nat} (h:D<2 ^ m):vi D m=0:=by simp[vi,Nat.div_eq_of_lt h]
theorem iw (n:Nat) {i:Nat} (h:i<4) (t:Nat):(wd i n).testBit t=(decide (t<64) && n.testBit (64*i+t)):=by
 rw[adx n h,Nat.testBit_mod_two_pow,Nat.testBit_div_two_pow,Nat.add_comm t]
theorem ra (D m t:Nat):(vi D m).testBit t=(decide (m≤t) && D.testBit t):=by
 unfold vi;rw[Nat.mul_comm,Nat.testBit_two_pow_mul,Nat.testBit_div_two_pow]
 by_cases h:m≤t
 ·simp[h,show t - m+m=t by omega]
 ·simp[h]
theorem bR (D m:Nat):v6 D m=(D.testBit m).toNat:=by
 unfold v6;rw[Nat.testBit_eq_decide_div_mod_eq];have:=Nat.mod_two_eq_zero_or_one (D / 2 ^ m)
 rcases this with h|h<;>simp[h]
theorem gk (D m:Nat) {j:Nat} (h:j<4) (hj:j≠m / 64):wd j (vi D (m+1))=wd j (vi D m):=by
 apply Nat.eq_of_testBit_eq;intro t;rw[iw _ h,iw _ h,ra,ra]
 by_cases ht:t<64
 ·have:decide (m+1≤64*j+t)=decide (m≤64*j+t):=by
   rw[decide_eq_decide];omega
  rw[this]
 ·simp[ht]
theorem bh (s:Nat):Nat.testBit 1 (s+1)=false:=by simp[Nat.testBit_succ]
theorem aC (D m:Nat) (h:m<256):wd (m / 64) (vi D (m+1)) ||| v6 D m*2 ^ (m%64)=wd (m / 64) (vi D m):=by
 apply Nat.eq_of_testBit_eq;intro t;rw[Nat.testBit_or,iw _ (by omega),iw _ (by omega),ra,ra,Nat.mul_comm (v6 D m),Nat.testBit_two_pow_mul,bR]
 by_cases ht:t<64
 ·by_cases h1:m%64=t
  ·have e:64*(m / 64)+t=m:=by omega
   subst h1;rw[e];cases D.testBit m<;>simp<;>omega
  ·have e1:decide (m+1≤64*(m / 64)+t)=decide (m≤64*(m / 64)+t):=by rw[decide_eq_decide];omega
   rw[e1]
   by_cases h2:m%64≤t
   ·obtain⟨s,hs⟩ : ∃ s,t - m%64=s+1:=⟨t - m%64 - 1,by omega⟩;rw[hs];cases D.testBit m<;>simp[bh]
   ·simp[h2]
 ·rcases Nat.lt_or_ge t (m%64) with h2|h2
  ·omega
  ·obtain⟨s,hs⟩ : ∃ s,t - m%64=s+1:=⟨t - m%64 - 1,by omega⟩;rw[hs];cases D.testBit m<;>simp[ht,bh]
theorem jy (a m:Nat):a / 2 ^ m=a / 2 ^ (m+1)+a / 2 ^ (m+1)+v6 a m:=by
 unfold v6;rw[Nat.pow_succ,← Nat.div_div_eq_div_mul];omega
theorem j4 {a b:Nat} (m:Nat) (hb:0<b):(a / 2 ^ (m+1)%b+a / 2 ^ (m+1)%b+v6 a m)%b=a / 2 ^ m%b ∧
  (a / 2 ^ (m+1)%b+a / 2 ^ (m+1)%b+v6 a m) / b=v6 (a / b) m:=by
 have hs:=jy a m;have hle:=rk a m;have hq:v6 (a / b) m=a / 2 ^ m / b%2:=by
  unfold v6;rw[Nat.div_div_eq_div_mul,Nat.div_div_eq_div_mul,Nat.mul_comm]
 rw[hq,hs];generalize a / 2 ^ (m+1)=x at *;generalize v6 a m=d at *;have e:x+x+d=x%b+x%b+d+b*(2*(x / b)):=by
  have:=Nat.div_add_mod x b;have h2:b*(2*(x / b))=2*(b*(x / b)):=by rw[Nat.mul_left_comm]
  rw[h2];generalize b*(x / b)=y at *;omega
 have hlt:(x%b+x%b+d) / b<2:=by
  rw[Nat.div_lt_iff_lt_mul hb];have:=Nat.mod_lt x hb;omega
 rw[e,Nat.add_mul_div_left _ _ hb,Nat.add_mul_mod_self_left];refine⟨rfl,?_⟩;rw[Nat.add_mul_mod_self_left,Nat.mod_eq_of_lt hlt]
def Dig (u d h l q r:Nat):Prop:=q*h+r=u∧(u*4294967296+d) / (h*4294967296+l)≤q
theorem Dig.start {u d h l:Nat} (hh:2147483648≤h) (hd:d<4294967296):Dig u d h l (u / h) (u%h):=by
 refine⟨by rw[Nat.mul_comm];exact Nat.div_add_mod u h,?_⟩;have hp:0<h*4294967296+l:=by omega
 have hhp:0<h:=by omega
 rw[Nat.div_le_iff_le_mul_add_pred hp];have h1:=Nat.div_add_mod u h;have h2:=Nat.mod_lt u hhp;generalize u / h=q at *;generalize u%h=r at *;subst h1;have:(h*4294967296+l)*q=(h*q)*4294967296+l*q:=by rw[Nat.add_mul,Nat.mul_right_comm]
 rw[this];have:(h*q+r)*4294967296+d=(h*q)*4294967296+r*4294967296+d:=by omega
 omega
theorem Dig.down {u d h l q r:Nat} (hD:Dig u d h l q r) (hu:u<h*4294967296+l) (hd:d<4294967296) (hh:2147483648≤h)
  (hc:4294967296≤q∨4294967296*r+d<q*l):1≤q∧Dig u d h l (q - 1) (r+h):=by
 obtain⟨h1,h2⟩:=hD;have hp:0<h*4294967296+l:=by omega
 have hlt:(u*4294967296+d) / (h*4294967296+l)<q:=by
  rw[Nat.div_lt_iff_lt_mul hp]
  rcases hc with hc|hc
  ·have:4294967296*(h*4294967296+l)≤q*(h*4294967296+l):=Nat.mul_le_mul_right _ hc;generalize q*(h*4294967296+l)=z at *;omega
  ·have:q*(h*4294967296+l)=(q*h)*4294967296+q*l:=by rw[Nat.mul_add,Nat.mul_assoc]
   rw[this];omega
 have hq0:=Nat.lt_of_le_of_lt (Nat.zero_le _) hlt;obtain⟨q',rfl⟩ : ∃ q',q=q' + 1:=⟨q - 1,by omega⟩;refine⟨by omega,?_,Nat.le_of_lt_succ hlt⟩;simp only[Nat.add_sub_cancel];rw[Nat.add_mul,Nat.one_mul] at h1;omega
theorem Dig.stop {u d h l q r:Nat} (hD:Dig u d h l q r) (hq:q*l≤4294967296*r+d) (hh:2147483648≤h):q=(u*4294967296+d) / (h*4294967296+l):=by
 obtain⟨h1,h2⟩:=hD;have hp:0<h*4294967296+l:=by omega
 refine Nat.le_antisymm ?_ h2;rw[Nat.le_div_iff_mul_le hp];have:q*(h*4294967296+l)=(q*h)*4294967296+q*l:=by rw[Nat.mul_add,Nat.mul_assoc]
 rw[this];omega
theorem Dig.break_ {u d h l q r:Nat} (hD:Dig u d h l q r) (hr:4294967296≤r) (hu:u<h*4294967296+l) (hl:l<4294967296) (hh:2147483648≤h):q=(u*4294967296+d) / (h*4294967296+l):=by
 refine hD.stop ?_ hh;obtain⟨h1,h2⟩:=hD;have hq:q<4294967296:=by
  rcases Nat.lt_or_ge q 4294967296 with h3|h3
  ·exact h3
  ·have:4294967296*h≤q*h:=Nat.mul_le_mul_right _ h3;omega
 have:q*l≤4294967295*4294967295:=Nat.mul_le_mul (by omega) (by omega);omega
theorem Dig.le {u d h l q r:Nat} (hD:Dig u d h l q r) (hu:u<18446744073709551616) (hh:2147483648≤h):q<8589934592∧r≤u:=by
 obtain⟨h1,_⟩:=hD;refine⟨?_,by omega⟩
 rcases Nat.lt_or_ge q 8589934592 with h3|h3
 ·exact h3
 ·have:8589934592*2147483648≤q*h:=Nat.mul_le_mul h3 hh;omega
theorem abG {u d Y:Nat} (hu:u<Y) (hd:d<4294967296):(u*4294967296+d) / Y<4294967296:=by
 rw[Nat.div_lt_iff_lt_mul (by omega)];omega
theorem fH {hi lo y s:Nat} (hs:s<64) (hy:y*2 ^ s<18446744073709551616) (hhi:hi<y) (hlo:lo<18446744073709551616) :
  hi*2 ^ s+lo / 2 ^ (64 - s)<y*2 ^ s ∧
  (hi*2 ^ s+lo / 2 ^ (64 - s))*18446744073709551616+lo*2 ^ s%18446744073709551616=(hi*18446744073709551616+lo)*2 ^ s:=by
 have hp:0<2 ^ (64 - s):=Nat.two_pow_pos _;have e:(18446744073709551616:Nat)=2 ^ s*2 ^ (64 - s):=by rw[← Nat.pow_add,show s+(64 - s)=64 by omega]
 have h1:lo / 2 ^ (64 - s)<2 ^ s:=by
  rw[Nat.div_lt_iff_lt_mul hp,← e];exact hlo
 have h2:(hi+1)*2 ^ s≤y*2 ^ s:=Nat.mul_le_mul_right _ hhi;rw[Nat.add_mul] at h2;refine⟨by omega,?_⟩;have h3:lo*2 ^ s / 18446744073709551616=lo / 2 ^ (64 - s):=by
  rw[e,Nat.mul_comm (2 ^ s) (2 ^ (64 - s)),← Nat.div_div_eq_div_mul,Nat.mul_comm lo,Nat.div_div_eq_div_mul,Nat.mul_comm (2 ^ (64 - s)),← Nat.div_div_eq_div_mul,Nat.mul_div_cancel_left _ (Nat.two_pow_pos _)]
 have h4:=Nat.div_add_mod (lo*2 ^ s) 18446744073709551616;rw[h3] at h4;rw[Nat.add_mul,Nat.add_mul,Nat.mul_right_comm];omega
theorem aa5 {hi lo s:Nat} (hs:s<64) (hlo:lo<18446744073709551616):(hi*2 ^ s) ||| (lo / 2 ^ (64 - s))=hi*2 ^ s+lo / 2 ^ (64 - s):=by
 refine nat_join s _ _ (Nat.mul_mod_left _ _) ?_;rw[Nat.div_lt_iff_lt_mul (Nat.two_pow_pos _),← Nat.pow_add,show s+(64 - s)=64 by omega];exact hlo
theorem gm {u d1 d0 Y q1 r1:Nat} (hY:0<Y) (e1:q1=(u*4294967296+d1) / Y) (e2:r1=(u*4294967296+d1)%Y) :
  q1*4294967296+(r1*4294967296+d0) / Y=(u*18446744073709551616+(d1*4294967296+d0)) / Y ∧
  (r1*4294967296+d0)%Y=(u*18446744073709551616+(d1*4294967296+d0))%Y:=by
 have h1:Y*q1+r1=u*4294967296+d1:=by rw[e1,e2];exact Nat.div_add_mod _ _
 clear e1 e2;have h2:Y*(q1*4294967296)=(Y*q1)*4294967296:=by rw[Nat.mul_assoc]
 have e:u*18446744073709551616+(d1*4294967296+d0)=(r1*4294967296+d0)+Y*(q1*4294967296):=by
  rw[h2];generalize Y*q1=z at h1;omega
 rw[e,Nat.add_mul_div_left _ _ hY,Nat.add_mul_mod_self_left];exact⟨Nat.add_comm _ _,rfl⟩
theorem aat {U y p:Nat} (hp:0<p):U*p / (y*p)=U / y∧U*p%(y*p) / p=U%y:=by
 refine⟨Nat.mul_div_mul_right _ _ hp,?_⟩;rw[Nat.mul_mod_mul_right,Nat.mul_div_cancel _ hp]
theorem abC {y:Nat} (h0:y≠0) (h:y<18446744073709551616):zK y≤64∧1≤zK y∧9223372036854775808≤y*2 ^ (64 - zK y)∧y*2 ^ (64 - zK y)<18446744073709551616:=by
 obtain⟨h1,h2,h3⟩:=uO h0;have h4:zK y≤64:=vc h;refine⟨h4,h1,?_,?_⟩
 ·have:=Nat.mul_le_mul_right (2 ^ (64 - zK y)) h2;rw[← Nat.pow_add,show zK y - 1+(64 - zK y)=63 by omega] at this;exact this
 ·have:=Nat.mul_lt_mul_of_pos_right h3 (Nat.two_pow_pos (64 - zK y));rw[← Nat.pow_add,show zK y+(64 - zK y)=64 by omega] at this;exact this
def WB:Nat:=18446744073709551616
def fT:List Nat→Nat
 | []=>0
 | x::l=>x+WB*fT l
theorem nx:∀ (l:List Nat) (j v:Nat),j<l.length→fT (l.set j v)+l.getD j 0*WB ^ j=fT l+v*WB ^ j
 | [],_,_,h=>by simp at h
 | x::l,0,v,_=>by simp[fT];omega
 | x::l,j+1,v,h=>by
  have ih:=nx l j v (by simpa using h);simp only[List.set_cons_succ,fT,List.getD_cons_succ,Nat.pow_succ'];have h1:WB*(fT (l.set j v)+l.getD j 0*WB ^ j)=WB*(fT l+v*WB ^ j):=by rw[ih]
  rw[Nat.mul_add,Nat.mul_add] at h1;rw[show l.getD j 0*(WB*WB ^ j)=WB*(l.getD j 0*WB ^ j) by rw[Nat.mul_left_comm],show v*(WB*WB ^ j)=WB*(v*WB ^ j) by rw[Nat.mul_left_comm]];omega
theorem fx (n:Nat):fT (List.replicate n 0)=0:=by
 induction n with
 | zero=>rfl
 | succ n ih=>simp[List.replicate_succ,fT,ih]
def rJ (a:Nat):Nat→Nat
 | 0=>0
 | k+1=>rJ a k+wd k a*WB ^ k
theorem mh {a:Nat} (h:a<zd):rJ a 4=a:=by
 have:=vO h;simp only[rJ,td,WB] at *;omega
def uL (a b i k more:Nat) (l:List Nat):Prop :=
 l.length=8∧(∀ x∈l,x<18446744073709551616)∧more<18446744073709551616∧(∀ j,i+4≤j→l.getD j 0=0) ∧
 fT l+more*WB ^ (i+k)=rJ a i*b+wd i a*rJ b k*WB ^ i
theorem uL.step {a b i k more:Nat} {l:List Nat} (h:uL a b i k more l) (hi:i<4) (hk:k<4) :
  uL a b i (k+1) ((wd i a*wd k b+l.getD (i+k) 0+more) / 18446744073709551616) (l.set (i+k) ((wd i a*wd k b+l.getD (i+k) 0+more)%18446744073709551616)):=by
 obtain⟨h1,h2,h3,h4,h5⟩:=h;have hx:=yd i a;have hy:=yd k b;have hl:l.getD (i+k) 0<18446744073709551616:=by
  rw[List.getD_eq_getElem?_getD,List.getElem?_eq_getElem (by omega),Option.getD_some];exact h2 _ (List.getElem_mem _)
 have hm:wd i a*wd k b≤18446744073709551615*18446744073709551615:=Nat.mul_le_mul (by omega) (by omega);have hdm:=Nat.div_add_mod (wd i a*wd k b+l.getD (i+k) 0+more) 18446744073709551616;refine⟨by simp[h1],fun x hx'=>?_,?_,fun j hj=>?_,?_⟩
 ·rcases List.mem_or_eq_of_mem_set hx' with h|h
  ·exact h2 x h
  ·rw[h];exact Nat.mod_lt _ (by omega)
 ·generalize wd i a*wd k b=p at *;omega
 ·rw[List.getD_eq_getElem?_getD,List.getElem?_set_ne (by omega),← List.getD_eq_getElem?_getD];exact h4 j hj
 ·have hs:=nx l (i+k) ((wd i a*wd k b+l.getD (i+k) 0+more)%18446744073709551616) (by omega);generalize (wd i a*wd k b+l.getD (i+k) 0+more) / 18446744073709551616=H at *;generalize (wd i a*wd k b+l.getD (i+k) 0+more)%18446744073709551616=L at *;generalize fT (l.set (i+k) L)=V' at *;generalize l.getD (i+k) 0=c at *;have e1:H*WB ^ (i+(k+1))=(WB*H)*WB ^ (i+k):=by
   rw[show i+(k+1)=(i+k)+1 by omega,Nat.pow_succ',← Nat.mul_assoc,Nat.mul_comm H WB]
  have e2:(18446744073709551616*H+L)*WB ^ (i+k)=(wd i a*wd k b+c+more)*WB ^ (i+k):=by rw[hdm]
  rw[Nat.add_mul,Nat.add_mul,Nat.add_mul] at e2;have e3:wd i a*rJ b (k+1)*WB ^ i=wd i a*rJ b k*WB ^ i+wd i a*wd k b*WB ^ (i+k):=by
   simp only[rJ];rw[Nat.mul_add,Nat.add_mul];congr 1;rw[Nat.pow_add,Nat.mul_assoc,Nat.mul_assoc,Nat.mul_assoc,Nat.mul_comm (WB ^ k) (WB ^ i)]
  rw[e1,e3];have e4:WB*H=18446744073709551616*H:=rfl;rw[e4];omega
theorem uL.next {a b i more:Nat} {l:List Nat} (h:uL a b i 4 more l) (hb:b<zd) (hi:i<4):uL a b (i+1) 0 0 (l.set (i+4) more):=by
 obtain⟨h1,h2,h3,h4,h5⟩:=h;have hs:=nx l (i+4) more (by omega);rw[h4 (i+4) (by omega)] at hs;refine⟨by simp[h1],fun x hx=>?_,by omega,fun j hj=>?_,?_⟩
 ·rcases List.mem_or_eq_of_mem_set hx with h|h
  ·exact h2 x h
  ·rw[h];exact h3
 ·rw[List.getD_eq_getElem?_getD,List.getElem?_set_ne (by omega),← List.getD_eq_getElem?_getD];exact h4 j (by omega)
 ·rw[mh hb] at h5;simp only[rJ,Nat.zero_mul,Nat.mul_zero,Nat.add_zero] at hs ⊢;rw[Nat.add_mul,hs,h5,Nat.mul_assoc,Nat.mul_comm b,← Nat.mul_assoc]
theorem uL.start (a b:Nat):uL a b 0 0 0 (List.replicate 8 0):=by
 refine⟨rfl,fun x hx=>?_,by omega,fun j _=>?_,?_⟩
 ·rw[List.eq_of_mem_replicate hx];omega
 ·have:∀ (n j:Nat),(List.replicate n 0).getD j 0=0:=by
   intro n j;rw[List.getD_eq_getElem?_getD,List.getElem?_replicate]
   split<;>rfl
  exact this 8 j
 ·rw[fx];simp[rJ]
theorem aeh {a b:Nat} {l:List Nat} (h:uL a b 4 0 0 l) (ha:a<zd) :
  td (l.getD 0 0) (l.getD 1 0) (l.getD 2 0) (l.getD 3 0)=a*b%zd∧td (l.getD 4 0) (l.getD 5 0) (l.getD 6 0) (l.getD 7 0)=a*b / zd:=by
 obtain⟨h1,h2,_,_,h5⟩:=h;rw[mh ha] at h5
 match l,h1 with
 | [x0,x1,x2,x3,x4,x5,x6,x7],_ =>
  have b0:=h2 x0 (by simp);have b1:=h2 x1 (by simp);have b2:=h2 x2 (by simp);have b3:=h2 x3 (by simp);simp only[rJ,Nat.zero_mul,Nat.mul_zero,Nat.add_zero] at h5;rw[← h5];have hlo:=kY b0 b1 b2 b3;have e:fT [x0,x1,x2,x3,x4,x5,x6,x7]=td x0 x1 x2 x3+zd*td x4 x5 x6 x7:=by
   simp only[fT,WB,td,zd];omega
  rw[e];show td x0 x1 x2 x3=_∧td x4 x5 x6 x7=_;have hp:0<zd:=by unfold zd;omega
  rw[Nat.add_mul_mod_self_left,Nat.mod_eq_of_lt hlo,Nat.add_mul_div_left _ _ hp,Nat.div_eq_of_lt hlo];exact⟨rfl,by omega⟩
end
section
namespace Sx
def v8 (q:Nat) (l:List Nat):Bool:=decide (1<q) && l.all (fun x=>decide (x<q))
theorem vV {q:Nat} {l:List Nat} (h:v8 q l=true):1<q∧∀ x∈l,x<q:=by
 unfold v8 at h;simpa using h
def zF:List Nat→Nat→Nat
 | [],_=>0
 | c::r,x=>c+x*zF r x
theorem ff (p:List Nat) (c x:Nat):zF (p++[c]) x=zF p x+c*x ^ p.length:=by
 induction p with
 | nil=>simp[zF]
 | cons a r ih =>
  simp only[List.cons_append,zF,ih,List.length_cons,Nat.pow_succ,Nat.mul_add];rw[Nat.add_assoc,Nat.mul_left_comm x c,Nat.mul_comm x (x ^ r.length)]
def fI (q x:Nat):List Nat→Nat
 | []=>0
 | c::r=>(fI q x r*x%q+c)%q
theorem aa6 (q x:Nat) (p:List Nat):fI q x p=zF p x%q:=by
 induction p with
 | nil=>simp[fI,zF]
 | cons c r ih =>
  simp only[fI,zF,ih];rw[Nat.mod_mul_mod,Nat.mod_add_mod,Nat.add_comm,Nat.mul_comm]
def ofZ (q:Nat) (n:Int):Nat:=if q<2 then 0 else (n%(q:Int)).toNat
theorem oh (q m:Nat) (h:0<q):ofZ q (m:Int)=m%q:=by
 unfold ofZ;split
 ·have:q=1:=by omega
  subst this;rw[Nat.mod_one]
 ·rw[← Int.natCast_emod,Int.toNat_natCast]
end Sx
end
end Go.Proofs.YtiaibpcaloigkaaGreatDoor
