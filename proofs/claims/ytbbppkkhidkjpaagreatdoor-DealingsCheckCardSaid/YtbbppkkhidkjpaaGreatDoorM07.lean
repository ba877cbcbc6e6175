/- Part 7 of the proof. -/
import Derived.Test.YtbbppkkhidkjpaaGreatDoorM06
set_option linter.unusedSimpArgs false
set_option linter.unusedVariables false
namespace Go.Proofs.YtbbppkkhidkjpaaGreatDoor
section
open Go Go.RowKit
namespace Sx
def w3C (l:List Nat):List Value:=l.map fun (b:Nat)=>Value.int .u32 (b:Int)
theorem zm (l:List Nat):(w3C l).length=l.length:=by simp[w3C]
theorem tw (l m:List Nat):w3C (l++m)=w3C l++w3C m:=by simp[w3C]
theorem uV {l:List Nat} {i x:Nat} (h:l[i]?=some x):(w3C l)[i]?=some (.int .u32 ((x:Nat):Int)):=by simp[w3C,h]
theorem rb (l:List Nat):(w3C l).all Value.oneCell'=true:=by simp[w3C,Value.oneCell']
def jP (l:List Nat) (n:Nat):List Value:=w3C l++List.replicate (n - l.length) (Value.int .u32 0)
theorem uP {l:List Nat} {n:Nat} (h:l.length≤n):(jP l n).length=n:=by simp[jP,zm];omega
theorem ul {l:List Nat} {n i x:Nat} (h:l[i]?=some x):(jP l n)[i]?=some (.int .u32 ((x:Nat):Int)):=by
 have hi:i<l.length:=by
  rcases Nat.lt_or_ge i l.length with h1|h1
  ·exact h1
  ·rw[List.getElem?_eq_none h1] at h;cases h
 unfold jP;rw[List.getElem?_append_left (by rw[zm];exact hi)];exact uV h
theorem sn {l:List Nat} {n x:Nat} (h:l.length<n):over (jP l n) l.length [.int .u32 ((x:Nat):Int)]=jP (l++[x]) n:=by
 have h1:(w3C l).length=l.length:=zm l;unfold over jP;rw[List.take_append_of_le_length (by omega),List.take_of_length_le (by omega),List.drop_append,List.drop_of_length_le (by rw[h1];simp),h1,tw,List.drop_replicate];simp only[List.length_cons,List.length_nil,List.length_append,List.nil_append];rw[show n - l.length - (l.length+(0+1) - l.length)=n - (l.length+(0+1)) by omega];rfl
theorem qA (x:Nat):IntKind.u32.wrap ((x:Nat):Int)=((x%4294967296:Nat):Int):=by
 simp only[IntKind.wrap,IntKind.signed,IntKind.bits];simp
theorem abV (a b:Nat):IntKind.u32.wrap (((a:Nat):Int)+((b:Nat):Int))=(((a+b)%4294967296:Nat):Int):=by
 rw[← Int.natCast_add];exact qA _
theorem eH (v e:Nat) (he:e≤32):IntKind.u32.wrap (((v:Nat):Int)*2 ^ (min ((e:Nat):Int).toNat IntKind.u32.bits))=((v*2 ^ e%4294967296:Nat):Int):=by
 rw[Int.toNat_natCast,Nat.min_eq_left (by exact he),show ((2:Int) ^ e)=((2 ^ e:Nat):Int) by rw[Int.natCast_pow];rfl,← Int.natCast_mul];exact qA _
theorem acw {a:Nat} (h:a<4294967296):(BitVec.ofInt IntKind.u32.bits ((a:Nat):Int)).toNat=a:=by
 rw[BitVec.ofInt_natCast,BitVec.toNat_ofNat];exact Nat.mod_eq_of_lt h
theorem jn {a b:Nat} (ha:a<4294967296) (hb:b<4294967296):a ||| b<4294967296:=Nat.or_lt_two_pow (n:=32) ha hb
theorem rR {a b:Nat} (ha:a<4294967296) (hb:b<4294967296):a ^^^ b<4294967296:=Nat.xor_lt_two_pow (n:=32) ha hb
theorem uo {a b:Nat} (ha:a<4294967296):a &&& b<4294967296:=Nat.lt_of_le_of_lt Nat.and_le_left ha
theorem aay {a b:Nat} (ha:a<4294967296) (hb:b<4294967296):IntKind.u32.wrap (((BitVec.ofInt IntKind.u32.bits ((a:Nat):Int) ||| BitVec.ofInt IntKind.u32.bits ((b:Nat):Int)).toNat:Nat):Int)=((a ||| b:Nat):Int):=by
 rw[BitVec.toNat_or,acw ha,acw hb,qA,Nat.mod_eq_of_lt (jn ha hb)]
theorem kD {a b:Nat} (ha:a<4294967296) (hb:b<4294967296):IntKind.u32.wrap (((BitVec.ofInt IntKind.u32.bits ((a:Nat):Int) ^^^ BitVec.ofInt IntKind.u32.bits ((b:Nat):Int)).toNat:Nat):Int)=((a ^^^ b:Nat):Int):=by
 rw[BitVec.toNat_xor,acw ha,acw hb,qA,Nat.mod_eq_of_lt (rR ha hb)]
theorem ach {a b:Nat} (ha:a<4294967296) (hb:b<4294967296):IntKind.u32.wrap (((BitVec.ofInt IntKind.u32.bits ((a:Nat):Int) &&& BitVec.ofInt IntKind.u32.bits ((b:Nat):Int)).toNat:Nat):Int)=((a &&& b:Nat):Int):=by
 rw[BitVec.toNat_and,acw ha,acw hb,qA,Nat.mod_eq_of_lt (uo ha)]
theorem fT {v b e:Nat} (h:b<2 ^ e):v*2 ^ e ||| b=v*2 ^ e+b:=by
 have:=Nat.shiftLeft_add_eq_or_of_lt (i:=e) h v;rw[Nat.shiftLeft_eq] at this;exact this.symm
theorem yv {n x:Nat} (hx:x<4294967296):Sha.rotr n x<4294967296:=jn (Nat.lt_of_le_of_lt (Nat.div_le_self _ _) hx) (Nat.mod_lt _ (by omega))
def oM (x:Nat) (ns:List Nat):Nat:=ns.foldl (fun a n=>a ^^^ Sha.rotr n x) 0
theorem dn (x:Nat) (ns:List Nat) (n:Nat):oM x (ns++[n])=oM x ns ^^^ Sha.rotr n x:=by simp[oM]
theorem kc {x:Nat} (hx:x<4294967296) (ns:List Nat):oM x ns<4294967296:=by
 have:∀ (ns:List Nat) (a:Nat),a<4294967296→ns.foldl (fun a n=>a ^^^ Sha.rotr n x) a<4294967296:=by
  intro ns
  induction ns with
  | nil=>intro a h;exact h
  | cons n ns ih=>intro a h;exact ih _ (rR h (yv hx))
 exact this ns 0 (by omega)
def inC (l:List Nat):List Value:=l.map fun (b:Nat)=>Value.int .i64 (b:Int)
theorem abi {l:List Nat} {i:Nat} (h:i<l.length):(inC l)[i]?=some (.int .i64 ((l[i]:Nat):Int)):=by simp[inC,h]
theorem aa9 {n:Nat} (h0:0<n) (h:n<32):IntKind.u64.wrap (-((n:Nat):Int))=((18446744073709551616 - n:Nat):Int):=by
 simp only[IntKind.wrap,IntKind.signed,IntKind.bits];simp;omega
theorem aep {n:Nat} (h0:0<n) (h:n<32):IntKind.u64.wrap (((BitVec.ofInt IntKind.u64.bits ((18446744073709551616 - n:Nat):Int) &&& BitVec.ofInt IntKind.u64.bits 31).toNat:Nat):Int)=((32 - n:Nat):Int):=by
 have h1:(BitVec.ofInt IntKind.u64.bits ((18446744073709551616 - n:Nat):Int)).toNat=18446744073709551616 - n:=by
  rw[BitVec.ofInt_natCast,BitVec.toNat_ofNat];exact Nat.mod_eq_of_lt (by show _<18446744073709551616;omega)
 have h2:(BitVec.ofInt IntKind.u64.bits 31).toNat=2 ^ 5 - 1:=by decide
 rw[BitVec.toNat_and,h1,h2,Nat.and_two_pow_sub_one_eq_mod,show (18446744073709551616 - n)%2 ^ 5=32 - n by omega];exact u64_in (by omega) (by omega)
end Sx
end
section
open Go Go.RowKit Go.BigFrame
namespace Sx
section
variable {P:Program} {w0:World} {gs:List Nat} {K:List (Nat × Value)} {L:List Ent}
theorem kJ {t len elem size i ty:Nat} {k:IntKind} {x y:Operand} {cs:List Value} {v:Value} [ArT P t len elem size] [OnT P elem] (hx:ev K x=some (.agg cs.toArray)) (hy:ev K y=some (.int k (i:Int))) (hi:i<len) (h1:size=1) (hc:cs[i]?=some v) :
  Does P w0 gs K L (.index t x y) ty v:=by
 intro a w hk _ o ho _;subst h1;have hu:∀ w,(underlying t).run P w=.ok (.array len elem) w:=fun w=>by simp[underlying,ArT.under (P:=P) (t:=t)]
 have hv:cs.toArray[i]?=some v:=by simpa using hc
 simp only[execOp,ho,hk.eval hx,hk.eval hy,Instr.index,asIntOf,Sem.run_bind,Sem.run_pure,Result.andThen_ok,hu];rw[if_pos ⟨by omega,by omega⟩];simp only[Sem.run_bind,ArT.size (P:=P) (t:=t),Result.andThen_ok,Sem.run_pure,Int.toNat_natCast,Nat.mul_one,part,OnT.agg (P:=P) (t:=elem) w,Bool.false_eq_true,if_false,hv]
end
@[irreducible] def shlW (k:IntKind) (m n:Int):Int:=k.wrap (m*2 ^ (min n.toNat k.bits))
@[irreducible] def shrW (k:IntKind) (m n:Int):Int:=m.fdiv (2 ^ (min n.toNat k.bits))
@[irreducible] def orW (k:IntKind) (m n:Int):Int:=k.wrap ((BitVec.ofInt k.bits m ||| BitVec.ofInt k.bits n).toNat)
@[irreducible] def xorW (k:IntKind) (m n:Int):Int:=k.wrap ((BitVec.ofInt k.bits m ^^^ BitVec.ofInt k.bits n).toNat)
@[irreducible] def andW (k:IntKind) (m n:Int):Int:=k.wrap ((BitVec.ofInt k.bits m &&& BitVec.ofInt k.bits n).toNat)
@[irreducible] def addW (k:IntKind) (m n:Int):Int:=k.wrap (m+n)
section
variable {P:Program} {w0:World} {gs:List Nat} {K:List (Nat × Value)} {L:List Ent}
theorem kX {x y:Operand} {t yt ty:TypeId} {k k' : IntKind} {m n r:Int} (hx:ev K x=some (.int k m)) (hy:ev K y=some (.int k' n)) (hr:shlW k m n=r) (hn:0≤n):Does P w0 gs K L (.binOp .shl t x y yt) ty (.int k r):=uN hx hy hn (by rw[← hr,shlW])
theorem eO {x y:Operand} {t yt ty:TypeId} {k k' : IntKind} {m n r:Int} (hx:ev K x=some (.int k m)) (hy:ev K y=some (.int k' n)) (hr:shrW k m n=r) (hn:0≤n):Does P w0 gs K L (.binOp .shr t x y yt) ty (.int k r):=yW hx hy hn (by rw[← hr,shrW])
theorem bT {x y:Operand} {t yt ty:TypeId} {k:IntKind} {m n r:Int} (hx:ev K x=some (.int k m)) (hy:ev K y=some (.int k n)) (hr:orW k m n=r):Does P w0 gs K L (.binOp .or t x y yt) ty (.int k r):=tS hx hy (by rw[← hr,orW])
theorem tL {x y:Operand} {t yt ty:TypeId} {k:IntKind} {m n r:Int} (hx:ev K x=some (.int k m)) (hy:ev K y=some (.int k n)) (hr:xorW k m n=r):Does P w0 gs K L (.binOp .xor t x y yt) ty (.int k r):=j5 hx hy (by rw[← hr,xorW])
theorem o6 {x y:Operand} {t yt ty:TypeId} {k:IntKind} {m n r:Int} (hx:ev K x=some (.int k m)) (hy:ev K y=some (.int k n)) (hr:andW k m n=r):Does P w0 gs K L (.binOp .and t x y yt) ty (.int k r):=sR hx hy (by rw[← hr,andW])
theorem ug {x y:Operand} {t yt ty:TypeId} {k:IntKind} {m n r:Int} (hx:ev K x=some (.int k m)) (hy:ev K y=some (.int k n)) (hr:addW k m n=r):Does P w0 gs K L (.binOp .add t x y yt) ty (.int k r):=zh hx hy (by rw[← hr,addW])
end
theorem ji (v e:Nat) (m:Int) (hm:m=(e:Int)) (he:e≤32):shlW .u32 (v:Int) m=((v*2 ^ e%4294967296:Nat):Int):=by
 subst hm;rw[shlW];exact eH v e he
theorem d6 (v e:Nat) (m:Int) (hm:m=(e:Int)) (he:e≤32):shrW .u32 (v:Int) m=((v / 2 ^ e:Nat):Int):=by
 subst hm;rw[shrW];exact uG he
theorem bj {a b:Nat} (ha:a<4294967296) (hb:b<4294967296):orW .u32 (a:Int) (b:Int)=((a ||| b:Nat):Int):=by rw[orW];exact aay ha hb
theorem tQ {a b:Nat} (ha:a<4294967296) (hb:b<4294967296):xorW .u32 (a:Int) (b:Int)=((a ^^^ b:Nat):Int):=by rw[xorW];exact kD ha hb
theorem nq {a b:Nat} (ha:a<4294967296) (hb:b<4294967296):andW .u32 (a:Int) (b:Int)=((a &&& b:Nat):Int):=by rw[andW];exact ach ha hb
theorem ui (a b:Nat):addW .u32 (a:Int) (b:Int)=(((a+b)%4294967296:Nat):Int):=by rw[addW];exact abV a b
theorem getD_get {l:List Nat} {i:Nat} (h:i<l.length):l[i]?=some (l.getD i 0):=by simp[List.getD,h]
theorem se {b:List Nat} {i:Nat} (h:i<b.length):(byC b)[i]?=some (.int .u8 ((b.getD i 0:Nat):Int)):=by
 rw[nW h];simp[List.getD,h]
theorem getD_lt {l:List Nat} {m:Nat} (h:∀ x∈l,x<m) (hm:0<m) (i:Nat):l.getD i 0<m:=by
 rcases Nat.lt_or_ge i l.length with h1|h1
 ·have:l.getD i 0=l[i]:=by simp[List.getD,h1]
  rw[this];exact h _ (List.getElem_mem h1)
 ·have:l.getD i 0=0:=by simp[List.getD,List.getElem?_eq_none h1]
  rw[this];exact hm
theorem y8 (b:List Nat):∀ i,(Sha.words b i).length=i
 | 0=>rfl
 | i+1=>by rw[Sha.words,List.length_append,y8 b i];rfl
theorem acY {b:List Nat} (h:∀ x∈b,x<256) (i:Nat):Sha.w16 b i<4294967296:=by
 have h0:=getD_lt h (by omega) (4*i);have h1:=getD_lt h (by omega) (4*i+1);have h2:=getD_lt h (by omega) (4*i+2);have h3:=getD_lt h (by omega) (4*i+3);unfold Sha.w16;omega
theorem sj {b:List Nat} (h:∀ x∈b,x<256):∀ i,∀ x∈Sha.words b i,x<4294967296
 | 0=>by simp[Sha.words]
 | i+1=>by
  intro x hx;rw[Sha.words,List.mem_append] at hx
  rcases hx with hx|hx
  ·exact sj h i x hx
  ·have:x=if i<16 then Sha.w16 b i else Sha.wnext (Sha.words b i) i:=by simpa using hx
   rw[this];split
   ·exact acY h i
   ·unfold Sha.wnext;exact Nat.mod_lt _ (by omega)
theorem cU {x:Nat}:oM x [7,18] ^^^ x / 8=Sha.sig0 x:=by simp[oM,Sha.sig0]
theorem aao {x:Nat}:oM x [17,19] ^^^ x / 1024=Sha.sig1 x:=by simp[oM,Sha.sig1]
theorem aK {x:Nat}:oM x [2,13,22]=Sha.Sig0 x:=by simp[oM,Sha.Sig0]
theorem aP {x:Nat}:oM x [6,11,25]=Sha.Sig1 x:=by simp[oM,Sha.Sig1]
theorem eE (b0 b1 b2 b3:Nat) (h1:b1<256) (h2:b2<256) (h3:b3<256):b0*16777216 ||| b1*65536 ||| b2*256 ||| b3=b0*16777216+b1*65536+b2*256+b3:=by
 have e1:=fT (v:=b0) (b:=b1*65536) (e:=24) (by omega);have e2:=fT (v:=b0*256+b1) (b:=b2*256) (e:=16) (by omega);have e3:=fT (v:=b0*65536+b1*256+b2) (b:=b3) (e:=8) (by omega);rw[show b0*16777216=b0*2 ^ 24 by omega,e1,show b0*2 ^ 24+b1*65536=(b0*256+b1)*2 ^ 16 by omega,e2,show (b0*256+b1)*2 ^ 16+b2*256=(b0*65536+b1*256+b2)*2 ^ 8 by omega,e3]
def mxW (r s:List Nat) (i:Nat):List Nat:=(Sha.addW r s).take i++r.drop i
theorem yw {r s:List Nat} (h:r.length=s.length):(Sha.addW r s).length=r.length:=by simp[Sha.addW,h]
theorem fS {r s:List Nat} {i:Nat} (h:r.length=s.length) (hi:i<r.length):(w3C (mxW r s i))[i]?=some (.int .u32 ((r.getD i 0:Nat):Int)):=by
 refine uV ?_;unfold mxW;have hl:((Sha.addW r s).take i).length=i:=by rw[List.length_take,yw h];omega
 rw[List.getElem?_append_right (by omega),hl,Nat.sub_self,List.getElem?_drop];exact getD_get hi
theorem aad {A B:List Value} {x y:Value}:over (A++x::B) A.length [y]=A++y::B:=by
 simp[over]
theorem ij {r s:List Nat} {i:Nat} (h:r.length=s.length) (hi:i<r.length):over (w3C (mxW r s i)) i [.int .u32 (((r.getD i 0+s.getD i 0)%4294967296:Nat):Int)]=w3C (mxW r s (i+1)):=by
 have hl:((Sha.addW r s).take i).length=i:=by rw[List.length_take,yw h];omega
 have hia:i<(Sha.addW r s).length:=by rw[yw h];exact hi
 have hel:(Sha.addW r s)[i]=(r.getD i 0+s.getD i 0)%4294967296:=by
  have h2:i<s.length:=by omega
  simp[Sha.addW,List.getD,hi,h2]
 unfold mxW;rw[List.drop_eq_getElem_cons hi,tw,List.take_succ_eq_append_getElem hia,tw,tw,hel];have hh:(w3C ((Sha.addW r s).take i)).length=i:=by rw[zm,hl]
 have:=aad (A:=w3C ((Sha.addW r s).take i)) (B:=w3C (r.drop (i+1))) (x:=.int .u32 ((r[i]:Nat):Int)) (y:=.int .u32 (((r.getD i 0+s.getD i 0)%4294967296:Nat):Int));rw[hh] at this;rw[show w3C (r[i]::r.drop (i+1))=.int .u32 ((r[i]:Nat):Int)::w3C (r.drop (i+1)) from rfl,this];simp[w3C]
theorem ju {r s:List Nat} (h:r.length=s.length):mxW r s r.length=Sha.addW r s:=by
 unfold mxW;rw[List.take_of_length_le (by rw[yw h];exact Nat.le_refl _),List.drop_length,List.append_nil]
theorem y5 {s w:List Nat} (hs:s.length=8):∀ i,(Sha.rnds s w i).length=8
 | 0=>hs
 | i+1=>by
  have h:=y5 (w:=w) hs i;rw[Sha.rnds];generalize Sha.rnds s w i=r at h
  match r,h with
  | [a,b,c,d,e,f,g,h],_=>rfl
theorem adM {s:List Nat} {k w:Nat} (h:∀ x∈s,x<4294967296) (h8:s.length=8):∀ x∈Sha.rnd s k w,x<4294967296:=by
 match s,h8 with
 | [a,b,c,d,e,f,g,hh],_ =>
  intro x hx;simp only[Sha.rnd,List.mem_cons,List.not_mem_nil,or_false] at hx;simp only[List.mem_cons,List.not_mem_nil,or_false] at h
  rcases hx with rfl|rfl|rfl|rfl|rfl|rfl|rfl|rfl
  ·exact Nat.mod_lt _ (by omega)
  ·exact h _ (by simp)
  ·exact h _ (by simp)
  ·exact h _ (by simp)
  ·exact Nat.mod_lt _ (by omega)
  ·exact h _ (by simp)
  ·exact h _ (by simp)
  ·exact h _ (by simp)
theorem jq {s w:List Nat} (h:∀ x∈s,x<4294967296) (h8:s.length=8):∀ i,∀ x∈Sha.rnds s w i,x<4294967296
 | 0=>h
 | i+1=>adM (jq h h8 i) (y5 h8 i)
theorem eight {s:List Nat} (h:s.length=8):∃ a b c d e f g k,s=[a,b,c,d,e,f,g,k]:=by
 match s,h with
 | [a,b,c,d,e,f,g,k],_=>exact⟨a,b,c,d,e,f,g,k,rfl⟩
def ovN (l:List Nat) (off:Nat) (xs:List Nat):List Nat:=l.take off++xs++l.drop (off+xs.length)
theorem abT (l:List Nat) (off:Nat) (xs:List Nat):over (byC l) off (byC xs)=byC (ovN l off xs):=by
 unfold over ovN;rw[zp,zp,mi,tv,zd]
theorem p9 {l xs:List Nat} {off:Nat} (h:off+xs.length≤l.length):(ovN l off xs).length=l.length:=by
 simp only[ovN,List.length_append,List.length_take,List.length_drop];omega
def wrK (n:Nat) (X:List Nat):Nat:=min X.length (64 - n%64)
theorem ml {n:Nat} {X:List Nat} (h:X≠[]):0<wrK n X:=by
 have:=List.length_pos_iff.2 h;have:=Nat.mod_lt n (show 0<64 by omega);unfold wrK;omega
def wr (s buf:List Nat) (n:Nat) (X:List Nat):List Nat × List Nat × Nat :=
 if h:X=[] then (s,buf,n) else
  wr (if n%64+wrK n X=64 then Sha.take s (ovN buf (n%64) (X.take (wrK n X))) else s) (ovN buf (n%64) (X.take (wrK n X))) (n+wrK n X) (X.drop (wrK n X))
termination_by X.length
decreasing_by
 have h1:=ml (n:=n) h;have:=List.length_pos_iff.2 h;rw[List.length_drop];omega
theorem m7 (s buf:List Nat) (n:Nat):wr s buf n []=(s,buf,n):=by rw[wr];simp
theorem jl {s buf:List Nat} {n:Nat} {X:List Nat} (h:X≠[]):wr s buf n X=wr (if n%64+wrK n X=64 then Sha.take s (ovN buf (n%64) (X.take (wrK n X))) else s) (ovN buf (n%64) (X.take (wrK n X))) (n+wrK n X) (X.drop (wrK n X)):=by
 rw[wr];simp[h]
structure iu (m s buf:List Nat) (n:Nat):Prop where
 n:n=m.length
 s:s=Sha.takes Sha.H0 m (m.length / 64)
 len:buf.length=64
 rest:buf.take (m.length%64)=m.drop (64*(m.length / 64))
theorem qQ (s m Y:List Nat):∀ q,64*q≤m.length→Sha.takes s (m++Y) q=Sha.takes s m q
 | 0,_=>rfl
 | q+1,h=>by
  rw[Sha.takes,Sha.takes,qQ s m Y q (by omega),List.drop_append_of_le_length (by omega),List.take_append_of_le_length (by rw[List.length_drop];omega)]
theorem iu.step {m s buf Y:List Nat} {n:Nat} (h:iu m s buf n) (hY:n%64+Y.length≤64) (h0:0<Y.length) :
  iu (m++Y) (if n%64+Y.length=64 then Sha.take s (ovN buf (n%64) Y) else s) (ovN buf (n%64) Y) (n+Y.length):=by
 obtain⟨hn,hs,hl,hr⟩:=h;subst hn;have hml:=Nat.mod_lt m.length (show 0<64 by omega);have hdm:=Nat.div_add_mod m.length 64;have hdl:(m++Y).drop (64*(m.length / 64))=m.drop (64*(m.length / 64))++Y:=List.drop_append_of_le_length (by omega);have hbl:(buf.take (m.length%64)).length=m.length%64:=by rw[List.length_take];omega
 have hov:(ovN buf (m.length%64) Y).take (m.length%64+Y.length)=m.drop (64*(m.length / 64))++Y:=by
  unfold ovN;rw[hr] at *;rw[List.take_append_of_le_length (by rw[List.length_append,hbl];omega),List.take_of_length_le (by rw[List.length_append,hbl];omega)]
 have hlen:(ovN buf (m.length%64) Y).length=64:=by rw[p9 (by omega),hl]
 by_cases hf:m.length%64+Y.length=64
 ·rw[if_pos hf];have hq:(m++Y).length / 64=m.length / 64+1:=by rw[List.length_append];omega
  have hm:(m++Y).length%64=0:=by rw[List.length_append];omega
  refine⟨by rw[List.length_append],?_,hlen,?_⟩
  ·rw[hq,Sha.takes,qQ _ _ _ _ (by omega),← hs,hdl];rw[hf,List.take_of_length_le (by omega)] at hov;rw[← hov,List.take_of_length_le (by omega)]
  ·rw[hm,hq,List.take_zero,List.drop_of_length_le (by rw[List.length_append];omega)]
 ·rw[if_neg hf];have hq:(m++Y).length / 64=m.length / 64:=by rw[List.length_append];omega
  have hm:(m++Y).length%64=m.length%64+Y.length:=by rw[List.length_append];omega
  refine⟨by rw[List.length_append],?_,hlen,?_⟩
  ·rw[hq,qQ _ _ _ _ (by omega),hs]
  ·rw[hm,hq,hov,hdl]
theorem iu.wr:∀ (k:Nat) {m s buf X:List Nat} {n:Nat},X.length≤k→iu m s buf n→iu (m++X) (wr s buf n X).1 (wr s buf n X).2.1 (wr s buf n X).2.2
 | 0,m,s,buf,X,n,hk,h=>by
  have:X=[]:=List.eq_nil_of_length_eq_zero (by omega);subst this;rw[m7,List.append_nil];exact h
 | k+1,m,s,buf,X,n,hk,h=>by
  by_cases hX:X=[]
  ·subst hX;rw[m7,List.append_nil];exact h
  ·have hp:=ml (n:=n) hX;have hle:wrK n X≤X.length:=by unfold wrK;omega
   have hle2:n%64+wrK n X≤64:=by have:=Nat.mod_lt n (show 0<64 by omega);unfold wrK;omega
   have htl:(X.take (wrK n X)).length=wrK n X:=by rw[List.length_take];omega
   have hst:=h.step (Y:=X.take (wrK n X)) (by omega) (by omega);rw[htl] at hst;have:=iu.wr k (X:=X.drop (wrK n X)) (by rw[List.length_drop];omega) hst;rw[jl hX];rw[List.append_assoc,List.take_append_drop] at this;exact this
theorem iu.nil {buf:List Nat} (h:buf.length=64):iu [] Sha.H0 buf 0:=⟨rfl,rfl,h,rfl⟩
section
variable {P:Program} {w0:World} {gs:List Nat} {n:Nat} {ops:List Oper} {Q:Exit→Act→World→Prop} {K:List (Nat × Value)} {L:List Ent} {rest:List Oper}
theorem WO.ndp (k:(L.map Ent.g).Nodup→WO P w0 gs n ops Q K L rest):WO P w0 gs n ops Q K L rest:=fun a w h1 h2 h3 h4=>k h4.nodup a w h1 h2 h3 h4
theorem WC.ndp' {c:Code} (k:(L.map Ent.g).Nodup→WC P w0 gs n c Q K L):WC P w0 gs n c Q K L:=fun a w h1 h2 h3 h4=>k h4.nodup a w h1 h2 h3 h4
theorem WO.mine (k:(∀ e∈L,w0.heap.size≤e.g∨e.g∈gs)→WO P w0 gs n ops Q K L rest):WO P w0 gs n ops Q K L rest:=fun a w h1 h2 h3 h4=>k h4.mine a w h1 h2 h3 h4
theorem WC.mine {c:Code} (k:(∀ e∈L,w0.heap.size≤e.g∨e.g∈gs)→WC P w0 gs n c Q K L):WC P w0 gs n c Q K L:=fun a w h1 h2 h3 h4=>k h4.mine a w h1 h2 h3 h4
end
def RdP (v:Value) (X:List Nat) (w:World):Prop :=
 ∃ p c,v=.slice p X.length c∧X.length≤c∧c<9223372036854775808∧((p=none∧X=[])∨∃ b o,p=some ⟨b,o,none⟩∧b<w.heap.size∧Seg w b o (byC X))
theorem RdP.rdN {v:Value} {X:List Nat} {w0 w:World} {L:List Ent} {g:Nat} (h:RdP v X w0) (hg:w0.heap.size≤g) (hm:Mr w0 [] L w):RdN g v X.length (byC X) w:=by
 obtain⟨p,c,rfl,h1,h2,h3⟩:=h;refine⟨p,c,rfl,h1,h2,zd X,h3.imp (fun ⟨e1,e2⟩=>⟨e1,by rw[e2];rfl⟩) (fun ⟨b,o,e,hb,hs⟩=>⟨b,o,e,by omega,hs.mod hm.mod (by simp)⟩)⟩
theorem RdP.mod {v:Value} {X:List Nat} {w w' : World} {gs:List Nat} (h:RdP v X w) (hm:Mod gs w w') (hg:∀ g∈gs,w.heap.size≤g):RdP v X w':=by
 obtain⟨p,c,rfl,h1,h2,h3⟩:=h;refine⟨p,c,rfl,h1,h2,h3.imp id (fun ⟨b,o,e,hb,hs⟩=>⟨b,o,e,by have:=hm.size;omega,hs.mod hm (fun hbg=>by have:=hg b hbg;omega)⟩)⟩
theorem RdP.rd {v:Value} {X:List Nat} {w:World} (h:RdP v X w):Rd v X.length (byC X) w:=by
 obtain⟨p,c,rfl,h1,h2,h3⟩:=h;refine⟨p,c,rfl,h3.imp (fun ⟨e1,e2⟩=>⟨e1,by rw[e2];rfl,by rw[e2];rfl⟩) (fun ⟨b,o,e,_,hs⟩=>⟨b,o,e,hs⟩)⟩
theorem RdP.own {w0 w:World} {gs:List Nat} {L:List Ent} {g t c:Nat} {X:List Nat} {r:List Value} (hm:Mr w0 gs L w) (h:Hs L g t (byC X++r)) (hc:X.length≤c) (hc2:c<9223372036854775808):RdP (.slice (some ⟨g,0,none⟩) X.length c) X w :=
 ⟨_,c,rfl,hc,hc2,.inr ⟨g,0,rfl,(hm.ok _ h.mem).lt,(h.seg hm).sub (k:=0) (m:=X.length) (by unfold cut;rw[List.drop_zero,List.take_append_of_le_length (by rw[zd];omega),List.take_of_length_le (by rw[zd];omega)])⟩⟩
theorem RdP.own0 {w0 w:World} {gs:List Nat} {L:List Ent} {g t c:Nat} {X:List Nat} (hm:Mr w0 gs L w) (h:Hs L g t (byC X)) (hc:X.length≤c) (hc2:c<9223372036854775808):RdP (.slice (some ⟨g,0,none⟩) X.length c) X w :=
 RdP.own (r:=[]) hm (by rw[List.append_nil];exact h) hc hc2
theorem RdP.ne {v:Value} {X:List Nat} {w:World} {g:Nat} (h:RdP v X w) (hg:∀ b o n c,v=.slice (some ⟨b,o,none⟩) n c→b≠g):RdN g v X.length (byC X) w:=by
 obtain⟨p,c,rfl,h1,h2,h3⟩:=h;refine⟨p,c,rfl,h1,h2,zd X,h3.imp (fun ⟨e1,e2⟩=>⟨e1,by rw[e2];rfl⟩) (fun ⟨b,o,e,hb,hs⟩=>⟨b,o,e,hg b o _ _ (by rw[e]),hs⟩)⟩
theorem RdN.own {w0 w:World} {gs:List Nat} {L:List Ent} {g gS t c:Nat} {X:List Nat} {r:List Value} (hm:Mr w0 gs L w) (h:Hs L g t (byC X++r)) (hne:g≠gS) (hc:X.length≤c) (hc2:c<9223372036854775808):RdN gS (.slice (some ⟨g,0,none⟩) X.length c) X.length (byC X) w :=
 (RdP.own hm h hc hc2).ne (fun b o n c e=>by cases e;exact hne)
theorem RdN.own0 {w0 w:World} {gs:List Nat} {L:List Ent} {g gS t c:Nat} {X:List Nat} (hm:Mr w0 gs L w) (h:Hs L g t (byC X)) (hne:g≠gS) (hc:X.length≤c) (hc2:c<9223372036854775808):RdN gS (.slice (some ⟨g,0,none⟩) X.length c) X.length (byC X) w :=
 (RdP.own0 hm h hc hc2).ne (fun b o n c e=>by cases e;exact hne)
def zQ (vs:List Value) (Ps:List (List Nat)) (w:World):Prop:=vs.length=Ps.length∧∀ (i:Nat) (v:Value) (X:List Nat),vs[i]?=some v→Ps[i]?=some X→RdP v X w
theorem zQ.mod {vs:List Value} {Ps:List (List Nat)} {w w' : World} {gs:List Nat} (h:zQ vs Ps w) (hm:Mod gs w w') (hg:∀ g∈gs,w.heap.size≤g):zQ vs Ps w':=⟨h.1,fun i v X h1 h2=>(h.2 i v X h1 h2).mod hm hg⟩
theorem zQ.nil {w:World}:zQ [] [] w:=⟨rfl,fun i v X h1 _=>by simp at h1⟩
theorem zQ.cons {v:Value} {vs:List Value} {X:List Nat} {Ps:List (List Nat)} {w:World} (h:RdP v X w) (hs:zQ vs Ps w):zQ (v::vs) (X::Ps) w :=
 ⟨by simp[hs.1],fun i u Y h1 h2=>by
  cases i with
  | zero=>simp at h1 h2;subst h1;subst h2;exact h
  | succ i=>simp at h1 h2;exact hs.2 i u Y h1 h2⟩
theorem zQ.snoc {v:Value} {vs:List Value} {X:List Nat} {Ps:List (List Nat)} {w:World} (h:RdP v X w) (hs:zQ vs Ps w):zQ (vs++[v]) (Ps++[X]) w :=
 ⟨by simp[hs.1],fun i u Y h1 h2=>by
  have h0:=hs.1
  rcases Nat.lt_trichotomy i vs.length with hi|hi|hi
  ·rw[List.getElem?_append_left hi] at h1;rw[List.getElem?_append_left (by omega)] at h2;exact hs.2 i u Y h1 h2
  ·rw[List.getElem?_append_right (by omega)] at h1;rw[List.getElem?_append_right (by omega)] at h2;rw[hi,Nat.sub_self] at h1;rw[show i - Ps.length=0 by omega] at h2;simp at h1 h2;subst h1;subst h2;exact h
  ·rw[List.getElem?_append_right (by omega)] at h1;rw[List.getElem?_eq_none (by simp;omega)] at h1;cases h1⟩
def vn (s:List Nat) (n:Nat):List Nat:=be 4 s.length++s++be 4 n
def yb (Ps:List (List Nat)):List Nat:=Ps.flatMap fun p=>be 4 p.length++p
theorem ri (Ps:List (List Nat)) (X:List Nat):yb (Ps++[X])=yb Ps++be 4 X.length++X:=by simp[yb]
theorem rA {Ps:List (List Nat)} {i:Nat} {X:List Nat} (h:Ps[i]?=some X):yb (Ps.take (i+1))=yb (Ps.take i)++be 4 X.length++X:=by
 rw[List.take_add_one,h];exact ri _ _
theorem dS (Ps Qs:List (List Nat)):yb (Ps++Qs)=yb Ps++yb Qs:=by simp[yb]
def zS (s:List Nat) (Ps:List (List Nat)):List Nat:=vn s Ps.length++yb Ps
def hOf (s:List Nat) (Ps:List (List Nat)):List Nat:=Sha.sum (zS s Ps)
theorem tE {wd x:Nat}:∀ b∈be wd x,b<256:=by
 intro b hb;unfold be at hb;obtain⟨j,_,rfl⟩:=List.mem_map.1 hb;exact Nat.mod_lt _ (by omega)
theorem jH {Ps:List (List Nat)} {i:Nat} {X:List Nat} (h:Ps[i]?=some X):(yb (Ps.take i)).length+4+X.length≤(yb Ps).length:=by
 have h1:=rA h;have h2:=dS (Ps.take (i+1)) (Ps.drop (i+1));rw[List.take_append_drop] at h2;rw[h2,h1];simp only[List.length_append,zj];omega
theorem adK {l xs:List Nat} {off b:Nat} (h1:∀ y∈l,y<b) (h2:∀ y∈xs,y<b):∀ y∈ovN l off xs,y<b:=by
 intro y hy;unfold ovN at hy
 rcases List.mem_append.1 hy with hy|hy
 ·rcases List.mem_append.1 hy with hy|hy
  ·exact h1 y (List.mem_of_mem_take hy)
  ·exact h2 y hy
 ·exact h1 y (List.mem_of_mem_drop hy)
theorem aaA:∀ (k:Nat) {s buf X:List Nat} {n:Nat},X.length≤k→(∀ y∈buf,y<256)→(∀ y∈X,y<256)→∀ y∈(wr s buf n X).2.1,y<256
 | 0,s,buf,X,n,hk,h1,h2=>by
  have:X=[]:=List.eq_nil_of_length_eq_zero (by omega);subst this;rw[m7];exact h1
 | k+1,s,buf,X,n,hk,h1,h2=>by
  by_cases hX:X=[]
  ·subst hX;rw[m7];exact h1
  ·have hp:=ml (n:=n) hX;have:=List.length_pos_iff.2 hX;rw[jl hX];exact aaA k (by rw[List.length_drop];omega) (adK h1 (u9 h2 _)) (yz h2 _)
def adC (t:Nat) (xs:List Value):Value→List Ent→Prop:=fun v N=>∃ g c r,v=.slice (some ⟨g,0,none⟩) xs.length c∧N=[⟨g,t,xs++r⟩]∧(xs++r).length=c∧c<9223372036854775808
section
variable {P:Program} {w0:World} {gs:List Nat} {n:Nat} {ops:List Oper} {Q:Exit→Act→World→Prop} {K:List (Nat × Value)} {L:List Ent} {rest:List Oper}
variable {d:Nat} {op:Op} {ty:TypeId} {pos:String} {after:Array Edge} {gd:Option (Nat × Bool)}
theorem WO.acallA {f:FuncId} [Cal P f] {xs:Array Operand} {ats:Array TypeId} {fs:List Value} {R:World→Prop} {t m:Nat} {cs:List Value} (ha:evs K xs.toList=some fs:=by rfl) (hc:Fn P f fs R (adC t cs)) (hR:∀ w,Mr w0 gs L w→R w)
  (k:∀ g c r,(cs++r).length=c→c<9223372036854775808→WO P w0 gs n ops Q ((d,.slice (some ⟨g,0,none⟩) m c)::K) (⟨g,t,cs++r⟩::L) rest) (hm:cs.length=m) (hd:Nat.blt d n=true:=by rfl) (hw:wk ops K gd=some true:=by rfl) :
  WO P w0 gs n ops Q K L (⟨some d,.call { callee:=.value (.func f),args:=xs,argTypes:=ats },ty,pos,after,gd⟩::rest) :=
 WO.calls (fs:=[]) (cs:=[]) hc rfl ha (by simp) hR (fun u N ⟨g,c,r,e1,e2,h1,h2⟩=>by subst e1;subst e2;subst hm;exact k g c r h1 h2) hd hw
theorem WX.retA {fn:Func} {r:ResultVar} {g t m c:Nat} {cs z:List Value} {L' : List Ent} (h1:(cs++z).length=c) (h2:c<9223372036854775808) (hm:cs.length=m) (hN:Pk L g t (cs++z) L':=by (repeat (first|exact Pk.here|apply Pk.there))) (hfn:fn.results=#[r]:=by rfl) (hr:Rv P w0 [] K L r (.slice (some ⟨g,0,none⟩) m c):=by exact zt rfl) :
  WX w0 [] n .ret (bodyPost P fn (ut w0 (adC t cs))) K L:=WX.ret1 hfn hr [⟨g,t,cs++z⟩] ⟨cs++z,L',hN,rfl,trivial⟩ ⟨g,c,z,by rw[hm],rfl,h1,h2⟩
theorem jy {w:World} {g t c:Nat} {X:List Nat} {r:List Value} (hm:Mr w0 gs L w) (h:Hs L g t (byC X++r):=by (repeat (first|exact Hs.here|apply Hs.there))) (h1:(byC X++r).length=c) (h2:c<9223372036854775808):Rd (.slice (some ⟨g,0,none⟩) X.length c) X.length (byC X) w :=
 (RdP.own hm h (by rw[← h1,List.length_append,zd];omega) h2).rd
end
def aax (t:Nat) (X:List Nat):Value→List Ent→Prop:=fun v N=>∃ g c R,v=.slice (some ⟨g,0,none⟩) X.length c∧N=[⟨g,t,byC (X++R)⟩]∧(X++R).length=c∧c<9223372036854775808
theorem Fn.newZ {P:Program} {f:FuncId} {fs:List Value} {R:World→Prop} {t:Nat} {X:List Nat} (h:Fn P f fs R (aax t X)):Fn P f fs R (adC t (byC X)) :=
 Fn.weak h (fun _ h=>h) (fun v N ⟨g,c,R,e1,e2,h1,h2⟩=>⟨g,c,byC R,by rw[zd];exact e1,by rw[← zp];exact e2,by rw[← zp,zd];exact h1,h2⟩)
section
variable {P:Program} {w0:World} {gs:List Nat} {n:Nat} {ops:List Oper} {Q:Exit→Act→World→Prop} {K:List (Nat × Value)} {L:List Ent} {rest:List Oper}
variable {d:Nat} {op:Op} {ty:TypeId} {pos:String} {after:Array Edge} {gd:Option (Nat × Bool)}
theorem ni (k:Nat):mkz k [Value.int .u8 0]=byC (List.replicate k 0):=by rw[rK];simp[byC]
theorem WO.appZ {st xt bts g len cap m l T:Nat} {X R Y:List Nat} {x y:Operand} {v:Value} {L2:List Ent} [SlT P st T 1] [SlT P xt T 1] [ElT P T bts [Value.int .u8 0]] (hx:ev K x=some (.slice (some ⟨g,0,none⟩) len cap)) (hy:ev K y=some v)
  (hxl:X.length=len) (hcap:(X++R).length=cap) (hp:Pk L g T (byC (X++R)) L2) (hr:Rds w0 gs L v m (byC Y)) (hyl:Y.length=m) (hl:len+m=l) (hlb:l<9223372036854775808) (hc:cap<9223372036854775808) (hnc:l*bts≤140737488355328) (hb:bts≠0) (ht:T≠0)
  (k:∀ g' c' R',(X++Y++R').length=c'→c' < 9223372036854775808→WO P w0 gs n ops Q ((d,.slice (some ⟨g',0,none⟩) l c')::K) (⟨g',T,byC (X++Y++R')⟩::L2) rest) (hd:Nat.blt d n=true:=by rfl) (hw:wk ops K gd=some true:=by rfl) :
  WO P w0 gs n ops Q K L (⟨some d,.call { callee:=.builtin .append,args:=#[x,y],argTypes:=#[st,xt] },ty,pos,after,gd⟩::rest):=by
 subst hl;intro a w hdf hsz hk hme;have hr1:=hr.perm hp.perm;have key:WO P w0 gs n ops Q K (⟨g,T,byC (X++R)⟩::L2) (⟨some d,.call { callee:=.builtin .append,args:=#[x,y],argTypes:=#[st,xt] },ty,pos,after,gd⟩::rest):=by
  by_cases hroom:len+m≤cap
  ·refine WO.both (sK (l:=len+m) hx hy hr1 (by rw[zd,hyl]) hroom (yF Y) Rp.here (cs':=byC (X++Y++R.drop m)) (by
    rw[zp X R,zp (X++Y),zp X Y,← hxl,← hyl];have:=sF (xs:=byC X) (r:=byC R) (ys:=byC Y);rw[zd,zd,tv] at this;exact this) (by rw[zd];omega) ht rfl) (k g cap (R.drop m) ?_ hc) hd hw
   simp only[List.length_append,List.length_drop] at hcap ⊢;omega
  ·refine WO.news (vF (z:=[Value.int .u8 0]) (n:=m) hx hy (ys:=byC X) (Rds.own (m:=len) Hs.here (by unfold cut;rw[List.drop_zero,zp,List.take_append_of_le_length (by rw[zd];omega),List.take_of_length_le (by rw[zd];omega)])) (by simp[zd,hxl]) hr1 (by simp[zd,hyl]) (by omega) hlb (growslice_fits (by omega) hnc) hb rfl) (fun s hs=>?_) hd hw;have hk2:=k (s 0) (s 1) (List.replicate (s 1 - (len+m)) 0) (by rw[List.length_append,List.length_append,List.length_replicate,hxl,hyl];omega) hs.2;rw[zp (X++Y),zp X Y,← ni] at hk2;exact fun a w h1 h2 h3 h4=>hk2 a w h1 h2 h3 (h4.sub (by simp))
 exact key a w hdf hsz hk (hme.perm hp.perm)
theorem WO.acallZ {f:FuncId} [Cal P f] {xs:Array Operand} {ats:Array TypeId} {fs:List Value} {Rq:World→Prop} {t m:Nat} {X:List Nat} (ha:evs K xs.toList=some fs:=by rfl) (hc:Fn P f fs Rq (aax t X)) (hR:∀ w,Mr w0 gs L w→Rq w)
  (k:∀ g c R,(X++R).length=c→c<9223372036854775808→WO P w0 gs n ops Q ((d,.slice (some ⟨g,0,none⟩) m c)::K) (⟨g,t,byC (X++R)⟩::L) rest) (hm:X.length=m) (hd:Nat.blt d n=true:=by rfl) (hw:wk ops K gd=some true:=by rfl) :
  WO P w0 gs n ops Q K L (⟨some d,.call { callee:=.value (.func f),args:=xs,argTypes:=ats },ty,pos,after,gd⟩::rest) :=
 WO.calls (fs:=[]) (cs:=[]) hc rfl ha (by simp) hR (fun u N ⟨g,c,r,e1,e2,h1,h2⟩=>by subst e1;subst e2;subst hm;exact k g c r h1 h2) hd hw
theorem WX.retZ {fn:Func} {r:ResultVar} {g t m c:Nat} {X R:List Nat} {L' : List Ent} (h1:(X++R).length=c) (h2:c<9223372036854775808) (hm:X.length=m) (hN:Pk L g t (byC (X++R)) L':=by (repeat (first|exact Pk.here|apply Pk.there))) (hfn:fn.results=#[r]:=by rfl) (hr:Rv P w0 [] K L r (.slice (some ⟨g,0,none⟩) m c):=by exact zt rfl) :
  WX w0 [] n .ret (bodyPost P fn (ut w0 (aax t X))) K L:=WX.ret1 hfn hr [⟨g,t,byC (X++R)⟩] ⟨_,L',hN,rfl,trivial⟩ ⟨g,c,R,by rw[hm],rfl,h1,h2⟩
theorem uU {w:World} {g t c:Nat} {X R:List Nat} (hm:Mr w0 gs L w) (h:Hs L g t (byC (X++R)):=by (repeat (first|exact Hs.here|apply Hs.there))) (h1:(X++R).length=c) (h2:c<9223372036854775808):Rd (.slice (some ⟨g,0,none⟩) X.length c) X.length (byC X) w :=
 jy hm (by rw[← zp];exact h) (by rw[← zp,zd];exact h1) h2
end
theorem adw (x:Nat):Sha.be8 x=be 8 x:=by
 simp only[Sha.be8,be,List.range_succ,List.range_zero,List.nil_append,List.cons_append,List.map_cons,List.map_nil,Nat.reduceMul,Nat.reduceSub,Nat.reducePow,Nat.div_one]
def mN (n:Nat):List Nat:=128::List.replicate (Sha.pad n) 0++be 8 (8*n)
theorem cq {m:List Nat} (h:8*m.length<18446744073709551616):Sha.padded m=m++mN m.length:=by
 unfold Sha.padded mN;rw[Nat.mod_eq_of_lt h,adw];simp
theorem yE (n:Nat):(mN n).length=Sha.pad n+9:=by simp[mN,zj]
theorem eI (n:Nat):∀ x∈mN n,x<256:=by
 intro x hx;unfold mN at hx
 rcases List.mem_append.1 hx with hx|hx
 ·rcases List.mem_cons.1 hx with rfl|hx
  ·omega
  ·have:=List.eq_of_mem_replicate hx;omega
 ·unfold be at hx;obtain⟨j,_,rfl⟩:=List.mem_map.1 hx;exact Nat.mod_lt _ (by omega)
theorem j9 {n l:Nat} (h1:1≤l) (h2:l≤Sha.pad n+1):(n+l)%64=56↔l=Sha.pad n+1:=by
 unfold Sha.pad at *;omega
theorem vW (s:List Nat):(Sha.outs s).length=4*s.length:=by
 induction s with
 | nil=>rfl
 | cons x s ih =>
  have:Sha.outs (x::s)=[x / 16777216%256,x / 65536%256,x / 256%256,x%256]++Sha.outs s:=by simp[Sha.outs]
  rw[this,List.length_append,ih];simp;omega
theorem abc (s:List Nat):Sha.outs s=beL 4 s:=by
 unfold Sha.outs beL;congr 1;funext x;simp only[be,List.range_succ,List.range_zero,List.nil_append,List.cons_append,List.map_cons,List.map_nil,Nat.reduceMul,Nat.reduceSub,Nat.reducePow,Nat.div_one]
theorem j6 {s:List Nat} {i:Nat} (h:i<4*s.length):(Sha.outs s)[i]?=some (s.getD (i / 4) 0 / 2 ^ (8*(3 - i%4))%256):=by
 have hi:i / 4<s.length:=by omega
 have hm:i%4<4:=Nat.mod_lt _ (by omega);have:=ka (wd:=4) hm hi;rw[abc];rw[show i / 4*4+i%4=i by omega] at this;rw[this];simp[List.getD,hi]
end Sx
end
end Go.Proofs.YtbbppkkhidkjpaaGreatDoor
