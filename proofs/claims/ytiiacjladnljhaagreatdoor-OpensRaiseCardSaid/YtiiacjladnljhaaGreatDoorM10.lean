/- Part 10 of the proof: SxN, SxO, SxP, SxQ, Sha, ShB, ShE, ShG, SxV, SxZ -/
import Derived.Test.YtiiacjladnljhaaGreatDoorM09
import Derived.Lib.AppendZeros
import Derived.WalkKit
set_option linter.unusedSimpArgs false
set_option linter.unusedVariables false
namespace Go.Proofs.YtiiacjladnljhaaGreatDoor
open Go Go.RowKit
namespace Sx
end Sx
end Go.Proofs.YtiiacjladnljhaaGreatDoor
namespace Go.Proofs.YtiiacjladnljhaaGreatDoor
open Go Go.RowKit Go.BigFrame
namespace Sx
def room (A:List Nat) (m:Nat):List Value:=byC A++List.replicate m (Value.int .u8 0)
end Sx
end Go.Proofs.YtiiacjladnljhaaGreatDoor
namespace Go.Proofs.YtiiacjladnljhaaGreatDoor
open Go Go.RowKit Go.BigFrame
namespace Sx
section
variable {P:Program} {w0:World} {gs:List Nat} {K:List (Nat × Value)} {L:List Ent}
theorem does_sliceAFrom {t len elem size g o ty l o' : Nat} {k:IntKind} {x y:Operand} [ArT P t len elem size] (hx:ev K x=some (.pointer (some ⟨g,o,none⟩))) (hy:ev K y=some (.int k (l:Int))) (hl:l<len) (ho' : o+l*size=o') :
    Does P w0 gs K L (.slice t x (some y) none none) ty (.slice (some ⟨g,o',none⟩) (len - l) (len - l)):=by
  intro a w hk _ oo ho _
  subst ho'
  have hu:∀ w,(underlying t).run P w=.ok (.array len elem) w:=fun w=>by simp[underlying,ArT.under (P:=P) (t:=t)]
  have hb:((0:Int)≤(l:Int)∧(l:Int)≤(len:Int)):=by omega
  have hne:¬ len=l:=by omega
  simp only[execOp,ho,hk.eval hx,Option.map_none,Option.map_some,hk.eval hy,Instr.sliceAt,Sem.run_bind,hu,Result.andThen_ok,Instr.sureAddr,Sem.run_pure,Instr.sliceBounds,Instr.sliceBound,asIntOf,if_pos hb,ArT.size (P:=P) (t:=t),Int.toNat_natCast]
  simp[hne,add_mk]
end
end Sx
end Go.Proofs.YtiiacjladnljhaaGreatDoor
namespace Go.Proofs.YtiiacjladnljhaaGreatDoor
open Go Go.RowKit Go.BigFrame
namespace Sx
theorem Rds.perm {w0:World} {gs:List Nat} {L L1:List Ent} {v:Value} {n:Nat} {xs:List Value} (h:Rds w0 gs L v n xs) (hp:L.Perm L1):Rds w0 gs L1 v n xs:=by
  obtain⟨p,c,rfl,h|⟨b,o,rfl,hr⟩⟩:=h
  · exact⟨p,c,rfl,.inl h⟩
  · exact⟨_,c,rfl,.inr ⟨b,o,rfl,fun w hm=>hr w ⟨hm.mod,fun e he=>hm.ok e (hp.mem_iff.1 he)⟩⟩⟩
theorem over_end {xs r ys:List Value}:over (xs++r) xs.length ys=xs++ys++r.drop ys.length:=by
  unfold over
  rw[List.take_left,List.drop_append,List.drop_of_length_le (by omega),List.nil_append,show xs.length+ys.length - xs.length=ys.length by omega]
end Sx
end Go.Proofs.YtiiacjladnljhaaGreatDoor
namespace Go.Proofs.YtiiacjladnljhaaGreatDoor
namespace Sha
def M:Nat:=4294967296
def rotr (n x:Nat):Nat:=(x / 2 ^ n) ||| (x*2 ^ (32 - n)%4294967296)
def sig0 (x:Nat):Nat:=rotr 7 x ^^^ rotr 18 x ^^^ (x / 8)
def sig1 (x:Nat):Nat:=rotr 17 x ^^^ rotr 19 x ^^^ (x / 1024)
def Sig0 (x:Nat):Nat:=rotr 2 x ^^^ rotr 13 x ^^^ rotr 22 x
def Sig1 (x:Nat):Nat:=rotr 6 x ^^^ rotr 11 x ^^^ rotr 25 x
def ch (e f g:Nat):Nat:=g ^^^ (e &&& (f ^^^ g))
def maj (a b c:Nat):Nat:=(a &&& b) ^^^ (a &&& c) ^^^ (b &&& c)
def K:List Nat:=[
  0x428a2f98,0x71374491,0xb5c0fbcf,0xe9b5dba5,0x3956c25b,0x59f111f1,0x923f82a4,0xab1c5ed5,
  0xd807aa98,0x12835b01,0x243185be,0x550c7dc3,0x72be5d74,0x80deb1fe,0x9bdc06a7,0xc19bf174,
  0xe49b69c1,0xefbe4786,0x0fc19dc6,0x240ca1cc,0x2de92c6f,0x4a7484aa,0x5cb0a9dc,0x76f988da,
  0x983e5152,0xa831c66d,0xb00327c8,0xbf597fc7,0xc6e00bf3,0xd5a79147,0x06ca6351,0x14292967,
  0x27b70a85,0x2e1b2138,0x4d2c6dfc,0x53380d13,0x650a7354,0x766a0abb,0x81c2c92e,0x92722c85,
  0xa2bfe8a1,0xa81a664b,0xc24b8b70,0xc76c51a3,0xd192e819,0xd6990624,0xf40e3585,0x106aa070,
  0x19a4c116,0x1e376c08,0x2748774c,0x34b0bcb5,0x391c0cb3,0x4ed8aa4a,0x5b9cca4f,0x682e6ff3,
  0x748f82ee,0x78a5636f,0x84c87814,0x8cc70208,0x90befffa,0xa4506ceb,0xbef9a3f7,0xc67178f2]
def H0:List Nat:=[0x6a09e667,0xbb67ae85,0x3c6ef372,0xa54ff53a,0x510e527f,0x9b05688c,0x1f83d9ab,0x5be0cd19]
def w16 (b:List Nat) (i:Nat):Nat:=(b.getD (4*i) 0)*16777216+(b.getD (4*i+1) 0)*65536+(b.getD (4*i+2) 0)*256+b.getD (4*i+3) 0
def wnext (w:List Nat) (i:Nat):Nat :=
  (w.getD (i - 16) 0+w.getD (i - 7) 0+sig0 (w.getD (i - 15) 0)+sig1 (w.getD (i - 2) 0))%4294967296
def words (b:List Nat):Nat→List Nat
  | 0=>[]
  | i+1=>words b i++[if i<16 then w16 b i else wnext (words b i) i]
def rnd (s:List Nat) (k w:Nat):List Nat :=
  match s with
  | [a,b,c,d,e,f,g,h] =>
    let t:=(h+Sig1 e+ch e f g+k+w)%4294967296
    [(t+Sig0 a+maj a b c)%4294967296,a,b,c,(d+t)%4294967296,e,f,g]
  | _=>s
def rnds (s w:List Nat):Nat→List Nat
  | 0=>s
  | i+1=>rnd (rnds s w i) (K.getD i 0) (w.getD i 0)
def addW (s t:List Nat):List Nat:=List.zipWith (fun x y=>(x+y)%4294967296) s t
def take (s b:List Nat):List Nat:=addW (rnds s (words b 64) 64) s
def takes (s b:List Nat):Nat→List Nat
  | 0=>s
  | n+1=>take (takes s b n) ((b.drop (64*n)).take 64)
def be8 (n:Nat):List Nat:=[n / 72057594037927936%256,n / 281474976710656%256,n / 1099511627776%256,n / 4294967296%256,n / 16777216%256,n / 65536%256,n / 256%256,n%256]
def pad (n:Nat):Nat:=(119 - n%64)%64
def padded (m:List Nat):List Nat:=m++128::List.replicate (pad m.length) 0++be8 (8*m.length%18446744073709551616)
def outs (s:List Nat):List Nat:=s.flatMap fun x=>[x / 16777216%256,x / 65536%256,x / 256%256,x%256]
def sum (m:List Nat):List Nat:=outs (takes H0 (padded m) ((padded m).length / 64))
end Sha
end Go.Proofs.YtiiacjladnljhaaGreatDoor
namespace Go.Proofs.YtiiacjladnljhaaGreatDoor
open Go Go.RowKit
namespace Sx
def w3C (l:List Nat):List Value:=l.map fun (b:Nat)=>Value.int .u32 (b:Int)
end Sx
end Go.Proofs.YtiiacjladnljhaaGreatDoor
namespace Go.Proofs.YtiiacjladnljhaaGreatDoor
open Go Go.RowKit Go.BigFrame
namespace Sx
@[irreducible] def addW (k:IntKind) (m n:Int):Int:=k.wrap (m+n)
theorem eight {s:List Nat} (h:s.length=8):∃ a b c d e f g k,s=[a,b,c,d,e,f,g,k]:=by
  match s,h with
  | [a,b,c,d,e,f,g,k],_=>exact⟨a,b,c,d,e,f,g,k,rfl⟩
end Sx
end Go.Proofs.YtiiacjladnljhaaGreatDoor
namespace Go.Proofs.YtiiacjladnljhaaGreatDoor
open Go Go.RowKit Go.BigFrame
namespace Sx
def ovN (l:List Nat) (off:Nat) (xs:List Nat):List Nat:=l.take off++xs++l.drop (off+xs.length)
def wrK (n:Nat) (X:List Nat):Nat:=min X.length (64 - n%64)
theorem wrK_pos {n:Nat} {X:List Nat} (h:X≠[]):0<wrK n X:=by
  have:=List.length_pos_iff.2 h
  have:=Nat.mod_lt n (show 0<64 by omega)
  unfold wrK;omega
def wr (s buf:List Nat) (n:Nat) (X:List Nat):List Nat × List Nat × Nat :=
  if h:X=[] then (s,buf,n) else
    wr (if n%64+wrK n X=64 then Sha.take s (ovN buf (n%64) (X.take (wrK n X))) else s) (ovN buf (n%64) (X.take (wrK n X))) (n+wrK n X) (X.drop (wrK n X))
termination_by X.length
decreasing_by
  have h1:=wrK_pos (n:=n) h
  have:=List.length_pos_iff.2 h
  rw[List.length_drop];omega
end Sx
end Go.Proofs.YtiiacjladnljhaaGreatDoor
namespace Go.Proofs.YtiiacjladnljhaaGreatDoor
open Go Go.RowKit Go.BigFrame
namespace Sx
section
variable {P:Program} {w0:World} {gs:List Nat} {n:Nat} {ops:List Oper} {Q:Exit→Act→World→Prop} {K:List (Nat × Value)} {L:List Ent} {rest:List Oper}
theorem WO.ndp (k:(L.map Ent.g).Nodup→WO P w0 gs n ops Q K L rest):WO P w0 gs n ops Q K L rest:=fun a w h1 h2 h3 h4=>k h4.nodup a w h1 h2 h3 h4
theorem WC.ndp' {c:Code} (k:(L.map Ent.g).Nodup→WC P w0 gs n c Q K L):WC P w0 gs n c Q K L:=fun a w h1 h2 h3 h4=>k h4.nodup a w h1 h2 h3 h4
theorem WO.mine (k:(∀ e∈L,w0.heap.size≤e.g∨e.g∈gs)→WO P w0 gs n ops Q K L rest):WO P w0 gs n ops Q K L rest:=fun a w h1 h2 h3 h4=>k h4.mine a w h1 h2 h3 h4
theorem WC.mine {c:Code} (k:(∀ e∈L,w0.heap.size≤e.g∨e.g∈gs)→WC P w0 gs n c Q K L):WC P w0 gs n c Q K L:=fun a w h1 h2 h3 h4=>k h4.mine a w h1 h2 h3 h4
end
def hHead (s:List Nat) (n:Nat):List Nat:=be 4 s.length++s++be 4 n
def hBody (Ps:List (List Nat)):List Nat:=Ps.flatMap fun p=>be 4 p.length++p
def hBytes (s:List Nat) (Ps:List (List Nat)):List Nat:=hHead s Ps.length++hBody Ps
def hOf (s:List Nat) (Ps:List (List Nat)):List Nat:=Sha.sum (hBytes s Ps)
end Sx
end Go.Proofs.YtiiacjladnljhaaGreatDoor
namespace Go.Proofs.YtiiacjladnljhaaGreatDoor
open Go Go.RowKit Go.BigFrame
namespace Sx
end Sx
end Go.Proofs.YtiiacjladnljhaaGreatDoor
