/- Part 6 of the proof. -/
import Derived.Test.YtiaibpcaloigkaaGreatDoorD05
import Derived.DeepKeys3
import Derived.WideLaws
set_option linter.unusedSimpArgs false
set_option linter.unusedVariables false
namespace Go.Proofs.YtiaibpcaloigkaaGreatDoor
section
open Go Go.RowKit
namespace Sx
def w3C (l:LN):List Value:=l.map fun (b:Nat)=>Value.int .u32 (b:Int)
theorem zr (l:LN):(w3C l).length=l.length:=by simp[w3C]
theorem uV (l m:LN):w3C (l++m)=w3C l++w3C m:=by simp[w3C]
theorem rj {l:LN} {i x:Nat} (h:l[i]?=some x):(w3C l)[i]?=some (.int .u32 ((x:Nat):Int)):=by simp[w3C,h]
theorem lJ (l:LN):(w3C l).all Value.oneCell'=true:=by simp[w3C,Value.oneCell']
def cm (l:LN) (n:Nat):List Value:=w3C l++List.replicate (n - l.length) (Value.int .u32 0)
theorem rz {l:LN} {n:Nat} (h:l.length≤n):(cm l n).length=n:=by simp[cm,zr];omega
theorem sr {l:LN} {n i x:Nat} (h:l[i]?=some x):(cm l n)[i]?=some (.int .u32 ((x:Nat):Int)):=by
 have hi:i<l.length:=by
  rcases Nat.lt_or_ge i l.length with h1|h1
  ·exact h1
  ·rw[List.getElem?_eq_none h1] at h;cases h
 unfold cm;rw[List.getElem?_append_left (by rw[zr];exact hi)];exact rj h
theorem ni {l:LN} {n x:Nat} (h:l.length<n):over (cm l n) l.length [.int .u32 ((x:Nat):Int)]=cm (l++[x]) n:=by
 have h1:(w3C l).length=l.length:=zr l;unfold over cm;rw[List.take_append_of_le_length Om,List.take_of_length_le Om,List.drop_append,List.drop_of_length_le (by rw[h1];simp),h1,uV,List.drop_replicate];simp only[List.length_cons,List.length_nil,List.length_append,List.nil_append];rw[show n - l.length - (l.length+(0+1) - l.length)=n - (l.length+(0+1)) by omega];rfl
theorem sT (x:Nat):IntKind.u32.wrap ((x:Nat):Int)=((x%4294967296:Nat):Int):=by
 simp only[IntKind.wrap,IntKind.signed,IntKind.bits];simp
theorem abU (a b:Nat):IntKind.u32.wrap (((a:Nat):Int)+((b:Nat):Int))=(((a+b)%4294967296:Nat):Int):=by
 rw[← Int.natCast_add];exact sT _
theorem e8 (v e:Nat) (he:e≤32):IntKind.u32.wrap (((v:Nat):Int)*2 ^ (min ((e:Nat):Int).toNat IntKind.u32.bits))=((v*2 ^ e%4294967296:Nat):Int):=by
 rw[Int.toNat_natCast,Nat.min_eq_left (by exact he),show ((2:Int) ^ e)=((2 ^ e:Nat):Int) by rw[Int.natCast_pow];rfl,← Int.natCast_mul];exact sT _
theorem ady {a:Nat} (h:a<4294967296):(BitVec.ofInt IntKind.u32.bits ((a:Nat):Int)).toNat=a:=by
 rw[BitVec.ofInt_natCast,BitVec.toNat_ofNat];exact Nat.mod_eq_of_lt h
theorem aZ {a b:Nat} (ha:a<4294967296) (hb:b<4294967296):a ||| b<4294967296:=Nat.or_lt_two_pow (n:=32) ha hb
theorem kl {a b:Nat} (ha:a<4294967296) (hb:b<4294967296):a ^^^ b<4294967296:=Nat.xor_lt_two_pow (n:=32) ha hb
theorem rO {a b:Nat} (ha:a<4294967296):a &&& b<4294967296:=Nat.lt_of_le_of_lt Nat.and_le_left ha
theorem aaB {a b:Nat} (ha:a<4294967296) (hb:b<4294967296):IntKind.u32.wrap (((BitVec.ofInt IntKind.u32.bits ((a:Nat):Int) ||| BitVec.ofInt IntKind.u32.bits ((b:Nat):Int)).toNat:Nat):Int)=((a ||| b:Nat):Int):=by
 rw[BitVec.toNat_or,ady ha,ady hb,sT,Nat.mod_eq_of_lt (aZ ha hb)]
theorem fO {a b:Nat} (ha:a<4294967296) (hb:b<4294967296):IntKind.u32.wrap (((BitVec.ofInt IntKind.u32.bits ((a:Nat):Int) ^^^ BitVec.ofInt IntKind.u32.bits ((b:Nat):Int)).toNat:Nat):Int)=((a ^^^ b:Nat):Int):=by
 rw[BitVec.toNat_xor,ady ha,ady hb,sT,Nat.mod_eq_of_lt (kl ha hb)]
theorem acX {a b:Nat} (ha:a<4294967296) (hb:b<4294967296):IntKind.u32.wrap (((BitVec.ofInt IntKind.u32.bits ((a:Nat):Int) &&& BitVec.ofInt IntKind.u32.bits ((b:Nat):Int)).toNat:Nat):Int)=((a &&& b:Nat):Int):=by
 rw[BitVec.toNat_and,ady ha,ady hb,sT,Nat.mod_eq_of_lt (rO ha)]
theorem dt {v b e:Nat} (h:b<2 ^ e):v*2 ^ e ||| b=v*2 ^ e+b:=by
 have:=Nat.shiftLeft_add_eq_or_of_lt (i:=e) h v;rw[Nat.shiftLeft_eq] at this;exact this.symm
theorem iX {n x:Nat} (hx:x<4294967296):Sha.rotr n x<4294967296:=aZ (Nat.lt_of_le_of_lt (Nat.div_le_self _ _) hx) (Nat.mod_lt _ Om)
def qH (x:Nat) (ns:LN):Nat:=ns.foldl (fun a n=>a ^^^ Sha.rotr n x) 0
theorem du (x:Nat) (ns:LN) (n:Nat):qH x (ns++[n])=qH x ns ^^^ Sha.rotr n x:=by simp[qH]
theorem lR {x:Nat} (hx:x<4294967296) (ns:LN):qH x ns<4294967296:=by
 have:∀ (ns:LN) (a:Nat),a<4294967296→ns.foldl (fun a n=>a ^^^ Sha.rotr n x) a<4294967296:=by
  intro ns
  induction ns with
  | nil=>intro a h;exact h
  | cons n ns ih=>intro a h;exact ih _ (kl h (iX hx))
 exact this ns 0 Om
def inC (l:LN):List Value:=l.map fun (b:Nat)=>Value.int .i64 (b:Int)
theorem abX {l:LN} {i:Nat} (h:i<l.length):(inC l)[i]?=some (.int .i64 ((l[i]:Nat):Int)):=by simp[inC,h]
theorem adr {n:Nat} (h0:0<n) (h:n<32):IntKind.u64.wrap (-((n:Nat):Int))=((18446744073709551616 - n:Nat):Int):=by
 simp only[IntKind.wrap,IntKind.signed,IntKind.bits];simp;omega
theorem afC {n:Nat} (h0:0<n) (h:n<32):IntKind.u64.wrap (((BitVec.ofInt IntKind.u64.bits ((18446744073709551616 - n:Nat):Int) &&& BitVec.ofInt IntKind.u64.bits 31).toNat:Nat):Int)=((32 - n:Nat):Int):=by
 have h1:(BitVec.ofInt IntKind.u64.bits ((18446744073709551616 - n:Nat):Int)).toNat=18446744073709551616 - n:=by
  rw[BitVec.ofInt_natCast,BitVec.toNat_ofNat];exact Nat.mod_eq_of_lt (by show _<18446744073709551616;omega)
 have h2:(BitVec.ofInt IntKind.u64.bits 31).toNat=2 ^ 5 - 1:=by decide
 rw[BitVec.toNat_and,h1,h2,Nat.and_two_pow_sub_one_eq_mod,show (18446744073709551616 - n)%2 ^ 5=32 - n by omega];exact u64_in Om Om
end Sx
end
section
open Go Go.RowKit Go.BigFrame
namespace Sx
section
variable {P:Program} {w0:World} {gs:LN} {K:List (Nat × Value)} {L:List Ent}
theorem lK {t len elem size i ty:Nat} {k:IntKind} {x y:Operand} {cs:LV} {v:Value} [ArT P t len elem size] [OnT P elem] (hx:ev K x=some (.agg cs.toArray)) (hy:ev K y=some (.int k (i:Int))) (hi:i<len) (h1:size=1) (hc:cs[i]?=some v) :
  Does P w0 gs K L (.index t x y) ty v:=by
 intro a w hk _ o ho _;subst h1;have hu:∀ w,(underlying t).run P w=.ok (.array len elem) w:=fun w=>by simp[underlying,ArT.under (P:=P) (t:=t)]
 have hv:cs.toArray[i]?=some v:=by simpa using hc
 simp only[execOp,ho,hk.eval hx,hk.eval hy,Instr.index,asIntOf,Sem.run_bind,Sem.run_pure,Result.andThen_ok,hu];rw[if_pos ⟨by omega,by omega⟩];simp only[Sem.run_bind,ArT.size (P:=P) (t:=t),Result.andThen_ok,Sem.run_pure,Int.toNat_natCast,Nat.mul_one,part,OnT.agg (P:=P) (t:=elem) w,Bool.false_eq_true,if_false,hv]
end
@[irreducible] def shlW (k:IntKind) (m n:Int):Int:=k.wrap (m*2 ^ (min n.toNat k.bits))
@[irreducible] def shrW (k:IntKind) (m n:Int):Int:=m.fdiv (2 ^ (min n.toNat k.bits))
@[irreducible] def orW (k:IntKind) (m n:Int):Int:=k.wrap ((BitVec.ofInt k.bits m ||| BitVec.ofInt k.bits n).toNat)
@[irreducible] def xorW (k:IntKind) (m n:Int):Int:=k.wrap ((BitVec.ofInt k.bits m ^^^ BitVec.ofInt k.bits n).toNat)
@[irreducible] def andW (k:IntKind) (m n:Int):Int:=k.wrap ((BitVec.ofInt k.bits m &&& BitVec.ofInt k.bits n).toNat)
@[irreducible] def addW (k:IntKind) (m n:Int):Int:=k.wrap (m+n)
section
variable {P:Program} {w0:World} {gs:LN} {K:List (Nat × Value)} {L:List Ent}
theorem ack {x y:Operand} {t yt ty:TypeId} {k k' : IntKind} {m n r:Int} (hx:ev K x=some (.int k m)) (hy:ev K y=some (.int k' n)) (hr:shlW k m n=r) (hn:0≤n):Does P w0 gs K L (.binOp .shl t x y yt) ty (.int k r):=sR hx hy hn (by rw[← hr,shlW])
theorem aeP {x y:Operand} {t yt ty:TypeId} {k k' : IntKind} {m n r:Int} (hx:ev K x=some (.int k m)) (hy:ev K y=some (.int k' n)) (hr:shrW k m n=r) (hn:0≤n):Does P w0 gs K L (.binOp .shr t x y yt) ty (.int k r):=vd hx hy hn (by rw[← hr,shrW])
theorem afk {x y:Operand} {t yt ty:TypeId} {k:IntKind} {m n r:Int} (hx:ev K x=some (.int k m)) (hy:ev K y=some (.int k n)) (hr:orW k m n=r):Does P w0 gs K L (.binOp .or t x y yt) ty (.int k r):=ut hx hy (by rw[← hr,orW])
theorem iE {x y:Operand} {t yt ty:TypeId} {k:IntKind} {m n r:Int} (hx:ev K x=some (.int k m)) (hy:ev K y=some (.int k n)) (hr:xorW k m n=r):Does P w0 gs K L (.binOp .xor t x y yt) ty (.int k r):=jn hx hy (by rw[← hr,xorW])
theorem aE {x y:Operand} {t yt ty:TypeId} {k:IntKind} {m n r:Int} (hx:ev K x=some (.int k m)) (hy:ev K y=some (.int k n)) (hr:andW k m n=r):Does P w0 gs K L (.binOp .and t x y yt) ty (.int k r):=tI hx hy (by rw[← hr,andW])
theorem rM {x y:Operand} {t yt ty:TypeId} {k:IntKind} {m n r:Int} (hx:ev K x=some (.int k m)) (hy:ev K y=some (.int k n)) (hr:addW k m n=r):Does P w0 gs K L (.binOp .add t x y yt) ty (.int k r):=zj hx hy (by rw[← hr,addW])
end
theorem abn (v e:Nat) (m:Int) (hm:m=(e:Int)) (he:e≤32):shlW .u32 (v:Int) m=((v*2 ^ e%4294967296:Nat):Int):=by
 subst hm;rw[shlW];exact e8 v e he
theorem aeq (v e:Nat) (m:Int) (hm:m=(e:Int)) (he:e≤32):shrW .u32 (v:Int) m=((v / 2 ^ e:Nat):Int):=by
 subst hm;rw[shrW];exact uP he
theorem afB {a b:Nat} (ha:a<4294967296) (hb:b<4294967296):orW .u32 (a:Int) (b:Int)=((a ||| b:Nat):Int):=by rw[orW];exact aaB ha hb
theorem jM {a b:Nat} (ha:a<4294967296) (hb:b<4294967296):xorW .u32 (a:Int) (b:Int)=((a ^^^ b:Nat):Int):=by rw[xorW];exact fO ha hb
theorem bg {a b:Nat} (ha:a<4294967296) (hb:b<4294967296):andW .u32 (a:Int) (b:Int)=((a &&& b:Nat):Int):=by rw[andW];exact acX ha hb
theorem rC (a b:Nat):addW .u32 (a:Int) (b:Int)=(((a+b)%4294967296:Nat):Int):=by rw[addW];exact abU a b
theorem getD_get {l:LN} {i:Nat} (h:i<l.length):l[i]?=some (l.getD i 0):=by simp[List.getD,h]
theorem sM {b:LN} {i:Nat} (h:i<b.length):(byC b)[i]?=some (.int .u8 ((b.getD i 0:Nat):Int)):=by
 rw[lY h];simp[List.getD,h]
theorem getD_lt {l:LN} {m:Nat} (h:∀ x∈l,x<m) (hm:0<m) (i:Nat):l.getD i 0<m:=by
 rcases Nat.lt_or_ge i l.length with h1|h1
 ·have:l.getD i 0=l[i]:=by simp[List.getD,h1]
  rw[this];exact h _ (List.getElem_mem h1)
 ·have:l.getD i 0=0:=by simp[List.getD,List.getElem?_eq_none h1]
  rw[this];exact hm
theorem uT (b:LN):∀ i,(Sha.words b i).length=i
 | 0=>rfl
 | i+1=>by rw[Sha.words,List.length_append,uT b i];rfl
theorem adZ {b:LN} (h:∀ x∈b,x<256) (i:Nat):Sha.w16 b i<4294967296:=by
 have h0:=getD_lt h Om (4*i);have h1:=getD_lt h Om (4*i+1);have h2:=getD_lt h Om (4*i+2);have h3:=getD_lt h Om (4*i+3);unfold Sha.w16;omega
theorem pB {b:LN} (h:∀ x∈b,x<256):∀ i,∀ x∈Sha.words b i,x<4294967296
 | 0=>by simp[Sha.words]
 | i+1=>by
  intro x hx;rw[Sha.words,List.mem_append] at hx
  rcases hx with hx|hx
  ·exact pB h i x hx
  ·have:x=if i<16 then Sha.w16 b i else Sha.wnext (Sha.words b i) i:=by simpa using hx
   rw[this];split
   ·exact adZ h i
   ·unfold Sha.wnext;exact Nat.mod_lt _ Om
theorem aav {x:Nat}:qH x [7,18] ^^^ x / 8=Sha.sig0 x:=by simp[qH,Sha.sig0]
theorem aal {x:Nat}:qH x [17,19] ^^^ x / 1024=Sha.sig1 x:=by simp[qH,Sha.sig1]
theorem ba {x:Nat}:qH x [2,13,22]=Sha.Sig0 x:=by simp[qH,Sha.Sig0]
theorem aaj {x:Nat}:qH x [6,11,25]=Sha.Sig1 x:=by simp[qH,Sha.Sig1]
theorem abi (b0 b1 b2 b3:Nat) (h1:b1<256) (h2:b2<256) (h3:b3<256):b0*16777216 ||| b1*65536 ||| b2*256 ||| b3=b0*16777216+b1*65536+b2*256+b3:=by
 have e1:=dt (v:=b0) (b:=b1*65536) (e:=24) Om;have e2:=dt (v:=b0*256+b1) (b:=b2*256) (e:=16) Om;have e3:=dt (v:=b0*65536+b1*256+b2) (b:=b3) (e:=8) Om;rw[show b0*16777216=b0*2 ^ 24 by omega,e1,show b0*2 ^ 24+b1*65536=(b0*256+b1)*2 ^ 16 by omega,e2,show (b0*256+b1)*2 ^ 16+b2*256=(b0*65536+b1*256+b2)*2 ^ 8 by omega,e3]
def mxW (r s:LN) (i:Nat):List Nat:=(Sha.addW r s).take i++r.drop i
theorem yP {r s:LN} (h:r.length=s.length):(Sha.addW r s).length=r.length:=by simp[Sha.addW,h]
theorem abC {r s:LN} {i:Nat} (h:r.length=s.length) (hi:i<r.length):(w3C (mxW r s i))[i]?=some (.int .u32 ((r.getD i 0:Nat):Int)):=by
 refine rj ?_;unfold mxW;have hl:((Sha.addW r s).take i).length=i:=by rw[List.length_take,yP h];omega
 rw[List.getElem?_append_right Om,hl,Nat.sub_self,List.getElem?_drop];exact getD_get hi
theorem aad {A B:LV} {x y:Value}:over (A++x::B) A.length [y]=A++y::B:=by
 simp[over]
theorem cr {r s:LN} {i:Nat} (h:r.length=s.length) (hi:i<r.length):over (w3C (mxW r s i)) i [.int .u32 (((r.getD i 0+s.getD i 0)%4294967296:Nat):Int)]=w3C (mxW r s (i+1)):=by
 have hl:((Sha.addW r s).take i).length=i:=by rw[List.length_take,yP h];omega
 have hia:i<(Sha.addW r s).length:=by rw[yP h];exact hi
 have hel:(Sha.addW r s)[i]=(r.getD i 0+s.getD i 0)%4294967296:=by
  have h2:i<s.length:=by omega
  simp[Sha.addW,List.getD,hi,h2]
 unfold mxW;rw[List.drop_eq_getElem_cons hi,uV,List.take_succ_eq_append_getElem hia,uV,uV,hel];have hh:(w3C ((Sha.addW r s).take i)).length=i:=by rw[zr,hl]
 have:=aad (A:=w3C ((Sha.addW r s).take i)) (B:=w3C (r.drop (i+1))) (x:=.int .u32 ((r[i]:Nat):Int)) (y:=.int .u32 (((r.getD i 0+s.getD i 0)%4294967296:Nat):Int));rw[hh] at this;rw[show w3C (r[i]::r.drop (i+1))=.int .u32 ((r[i]:Nat):Int)::w3C (r.drop (i+1)) from rfl,this];simp[w3C]
theorem aA {r s:LN} (h:r.length=s.length):mxW r s r.length=Sha.addW r s:=by
 unfold mxW;rw[List.take_of_length_le (by rw[yP h];exact Nat.le_refl _),List.drop_length,List.append_nil]
theorem vu {s w:LN} (hs:s.length=8):∀ i,(Sha.rnds s w i).length=8
 | 0=>hs
 | i+1=>by
  have h:=vu (w:=w) hs i;rw[Sha.rnds];generalize Sha.rnds s w i=r at h
  match r,h with
  | [a,b,c,d,e,f,g,h],_=>rfl
theorem ae6 {s:LN} {k w:Nat} (h:∀ x∈s,x<4294967296) (h8:s.length=8):∀ x∈Sha.rnd s k w,x<4294967296:=by
 match s,h8 with
 | [a,b,c,d,e,f,g,hh],_ =>
  intro x hx;simp only[Sha.rnd,List.mem_cons,List.not_mem_nil,or_false] at hx;simp only[List.mem_cons,List.not_mem_nil,or_false] at h
  rcases hx with rfl|rfl|rfl|rfl|rfl|rfl|rfl|rfl
  ·exact Nat.mod_lt _ Om
  ·exact h _ Sm
  ·exact h _ Sm
  ·exact h _ Sm
  ·exact Nat.mod_lt _ Om
  ·exact h _ Sm
  ·exact h _ Sm
  ·exact h _ Sm
theorem gJ {s w:LN} (h:∀ x∈s,x<4294967296) (h8:s.length=8):∀ i,∀ x∈Sha.rnds s w i,x<4294967296
 | 0=>h
 | i+1=>ae6 (gJ h h8 i) (vu h8 i)
theorem eight {s:LN} (h:s.length=8):∃ a b c d e f g k,s=[a,b,c,d,e,f,g,k]:=by
 match s,h with
 | [a,b,c,d,e,f,g,k],_=>exact⟨a,b,c,d,e,f,g,k,rfl⟩
def ovN (l:LN) (off:Nat) (xs:LN):List Nat:=l.take off++xs++l.drop (off+xs.length)
theorem abT (l:LN) (off:Nat) (xs:LN):over (byC l) off (byC xs)=byC (ovN l off xs):=by
 unfold over ovN;rw[zW,zW,kJ,ol,zd]
theorem qp {l xs:LN} {off:Nat} (h:off+xs.length≤l.length):(ovN l off xs).length=l.length:=by
 simp only[ovN,List.length_append,List.length_take,List.length_drop];omega
def wrK (n:Nat) (X:LN):Nat:=min X.length (64 - n%64)
theorem oI {n:Nat} {X:LN} (h:X≠[]):0<wrK n X:=by
 have:=List.length_pos_iff.2 h;have:=Nat.mod_lt n (show 0<64 by omega);unfold wrK;omega
def wr (s buf:LN) (n:Nat) (X:LN):List Nat × List Nat × Nat :=
 if h:X=[] then (s,buf,n) else
  wr (if n%64+wrK n X=64 then Sha.take s (ovN buf (n%64) (X.take (wrK n X))) else s) (ovN buf (n%64) (X.take (wrK n X))) (n+wrK n X) (X.drop (wrK n X))
termination_by X.length
decreasing_by
 have h1:=oI (n:=n) h;have:=List.length_pos_iff.2 h;rw[List.length_drop];omega
theorem nH (s buf:LN) (n:Nat):wr s buf n []=(s,buf,n):=by rw[wr];simp
theorem li {s buf:LN} {n:Nat} {X:LN} (h:X≠[]):wr s buf n X=wr (if n%64+wrK n X=64 then Sha.take s (ovN buf (n%64) (X.take (wrK n X))) else s) (ovN buf (n%64) (X.take (wrK n X))) (n+wrK n X) (X.drop (wrK n X)):=by
 rw[wr];simp[h]
structure jb (m s buf:LN) (n:Nat):Prop where
 n:n=m.length
 s:s=Sha.takes Sha.H0 m (m.length / 64)
 len:buf.length=64
 rest:buf.take (m.length%64)=m.drop (64*(m.length / 64))
theorem rQ (s m Y:LN):∀ q,64*q≤m.length→Sha.takes s (m++Y) q=Sha.takes s m q
 | 0,_=>rfl
 | q+1,h=>by
  rw[Sha.takes,Sha.takes,rQ s m Y q Om,List.drop_append_of_le_length Om,List.take_append_of_le_length (by rw[List.length_drop];omega)]
theorem jb.step {m s buf Y:LN} {n:Nat} (h:jb m s buf n) (hY:n%64+Y.length≤64) (h0:0<Y.length) :
  jb (m++Y) (if n%64+Y.length=64 then Sha.take s (ovN buf (n%64) Y) else s) (ovN buf (n%64) Y) (n+Y.length):=by
 obtain⟨hn,hs,hl,hr⟩:=h;subst hn;have hml:=Nat.mod_lt m.length (show 0<64 by omega);have hdm:=Nat.div_add_mod m.length 64;have hdl:(m++Y).drop (64*(m.length / 64))=m.drop (64*(m.length / 64))++Y:=List.drop_append_of_le_length Om;have hbl:(buf.take (m.length%64)).length=m.length%64:=by rw[List.length_take];omega
 have hov:(ovN buf (m.length%64) Y).take (m.length%64+Y.length)=m.drop (64*(m.length / 64))++Y:=by
  unfold ovN;rw[hr] at *;rw[List.take_append_of_le_length (by rw[List.length_append,hbl];omega),List.take_of_length_le (by rw[List.length_append,hbl];omega)]
 have hlen:(ovN buf (m.length%64) Y).length=64:=by rw[qp Om,hl]
 by_cases hf:m.length%64+Y.length=64
 ·rw[if_pos hf];have hq:(m++Y).length / 64=m.length / 64+1:=by rw[List.length_append];omega
  have hm:(m++Y).length%64=0:=by rw[List.length_append];omega
  refine⟨by rw[List.length_append],?_,hlen,?_⟩
  ·rw[hq,Sha.takes,rQ _ _ _ _ Om,← hs,hdl];rw[hf,List.take_of_length_le Om] at hov;rw[← hov,List.take_of_length_le Om]
  ·rw[hm,hq,List.take_zero,List.drop_of_length_le (by rw[List.length_append];omega)]
 ·rw[if_neg hf];have hq:(m++Y).length / 64=m.length / 64:=by rw[List.length_append];omega
  have hm:(m++Y).length%64=m.length%64+Y.length:=by rw[List.length_append];omega
  refine⟨by rw[List.length_append],?_,hlen,?_⟩
  ·rw[hq,rQ _ _ _ _ Om,hs]
  ·rw[hm,hq,hov,hdl]
theorem jb.wr:∀ (k:Nat) {m s buf X:LN} {n:Nat},X.length≤k→jb m s buf n→jb (m++X) (wr s buf n X).1 (wr s buf n X).2.1 (wr s buf n X).2.2
 | 0,m,s,buf,X,n,hk,h=>by
  have:X=[]:=List.eq_nil_of_length_eq_zero Om;subst this;rw[nH,List.append_nil];exact h
 | k+1,m,s,buf,X,n,hk,h=>by
  by_cases hX:X=[]
  ·subst hX;rw[nH,List.append_nil];exact h
  ·have hp:=oI (n:=n) hX;have hle:wrK n X≤X.length:=by unfold wrK;omega
   have hle2:n%64+wrK n X≤64:=by have:=Nat.mod_lt n (show 0<64 by omega);unfold wrK;omega
   have htl:(X.take (wrK n X)).length=wrK n X:=by rw[List.length_take];omega
   have hst:=h.step (Y:=X.take (wrK n X)) Om Om;rw[htl] at hst;have:=jb.wr k (X:=X.drop (wrK n X)) (by rw[List.length_drop];omega) hst;rw[li hX];rw[List.append_assoc,List.take_append_drop] at this;exact this
theorem jb.nil {buf:LN} (h:buf.length=64):jb [] Sha.H0 buf 0:=⟨rfl,rfl,h,rfl⟩
section
variable {P:Program} {w0:World} {gs:LN} {n:Nat} {ops:List Oper} {Q:Exit→Act→World→Prop} {K:List (Nat × Value)} {L:List Ent} {rest:List Oper}
theorem WO.ndp (k:(L.map Ent.g).Nodup→WO P w0 gs n ops Q K L rest):WO P w0 gs n ops Q K L rest:=fun a w h1 h2 h3 h4=>k h4.nodup a w h1 h2 h3 h4
theorem WC.ndp' {c:Code} (k:(L.map Ent.g).Nodup→WC P w0 gs n c Q K L):WC P w0 gs n c Q K L:=fun a w h1 h2 h3 h4=>k h4.nodup a w h1 h2 h3 h4
theorem WO.mine (k:(∀ e∈L,w0.heap.size≤e.g∨e.g∈gs)→WO P w0 gs n ops Q K L rest):WO P w0 gs n ops Q K L rest:=fun a w h1 h2 h3 h4=>k h4.mine a w h1 h2 h3 h4
theorem WC.mine {c:Code} (k:(∀ e∈L,w0.heap.size≤e.g∨e.g∈gs)→WC P w0 gs n c Q K L):WC P w0 gs n c Q K L:=fun a w h1 h2 h3 h4=>k h4.mine a w h1 h2 h3 h4
end
def RdP (v:Value) (X:LN) (w:World):Prop :=
 ∃ p c,v=.slice p X.length c∧X.length≤c∧c<9223372036854775808∧((p=none∧X=[])∨∃ b o,p=some ⟨b,o,none⟩∧b<w.heap.size∧Seg w b o (byC X))
theorem RdP.rdN {v:Value} {X:LN} {w0 w:World} {L:List Ent} {g:Nat} (h:RdP v X w0) (hg:w0.heap.size≤g) (hm:Mr w0 [] L w):RdN g v X.length (byC X) w:=by
 obtain⟨p,c,rfl,h1,h2,h3⟩:=h;refine⟨p,c,rfl,h1,h2,zd X,h3.imp (fun ⟨e1,e2⟩=>⟨e1,by rw[e2];rfl⟩) (fun ⟨b,o,e,hb,hs⟩=>⟨b,o,e,by omega,hs.mod hm.mod Sm⟩)⟩
theorem RdP.rd {v:Value} {X:LN} {w:World} (h:RdP v X w):Rd v X.length (byC X) w:=by
 obtain⟨p,c,rfl,h1,h2,h3⟩:=h;refine⟨p,c,rfl,h3.imp (fun ⟨e1,e2⟩=>⟨e1,by rw[e2];rfl,by rw[e2];rfl⟩) (fun ⟨b,o,e,_,hs⟩=>⟨b,o,e,hs⟩)⟩
theorem RdP.own {w0 w:World} {gs:LN} {L:List Ent} {g t c:Nat} {X:LN} {r:LV} (hm:Mr w0 gs L w) (h:Hs L g t (byC X++r)) (hc:X.length≤c) (hc2:c<9223372036854775808):RdP (.slice (some ⟨g,0,none⟩) X.length c) X w :=
 ⟨_,c,rfl,hc,hc2,.inr ⟨g,0,rfl,(hm.ok _ h.mem).lt,(h.seg hm).sub (k:=0) (m:=X.length) (by unfold cut;rw[List.drop_zero,List.take_append_of_le_length (by rw[zd];omega),List.take_of_length_le (by rw[zd];omega)])⟩⟩
theorem RdP.own0 {w0 w:World} {gs:LN} {L:List Ent} {g t c:Nat} {X:LN} (hm:Mr w0 gs L w) (h:Hs L g t (byC X)) (hc:X.length≤c) (hc2:c<9223372036854775808):RdP (.slice (some ⟨g,0,none⟩) X.length c) X w :=
 RdP.own (r:=[]) hm (by rw[List.append_nil];exact h) hc hc2
theorem RdP.ne {v:Value} {X:LN} {w:World} {g:Nat} (h:RdP v X w) (hg:∀ b o n c,v=.slice (some ⟨b,o,none⟩) n c→b≠g):RdN g v X.length (byC X) w:=by
 obtain⟨p,c,rfl,h1,h2,h3⟩:=h;refine⟨p,c,rfl,h1,h2,zd X,h3.imp (fun ⟨e1,e2⟩=>⟨e1,by rw[e2];rfl⟩) (fun ⟨b,o,e,hb,hs⟩=>⟨b,o,e,hg b o _ _ (by rw[e]),hs⟩)⟩
theorem RdN.own {w0 w:World} {gs:LN} {L:List Ent} {g gS t c:Nat} {X:LN} {r:LV} (hm:Mr w0 gs L w) (h:Hs L g t (byC X++r)) (hne:g≠gS) (hc:X.length≤c) (hc2:c<9223372036854775808):RdN gS (.slice (some ⟨g,0,none⟩) X.length c) X.length (byC X) w :=
 (RdP.own hm h hc hc2).ne (fun b o n c e=>by cases e;exact hne)
theorem RdN.own0 {w0 w:World} {gs:LN} {L:List Ent} {g gS t c:Nat} {X:LN} (hm:Mr w0 gs L w) (h:Hs L g t (byC X)) (hne:g≠gS) (hc:X.length≤c) (hc2:c<9223372036854775808):RdN gS (.slice (some ⟨g,0,none⟩) X.length c) X.length (byC X) w :=
 (RdP.own0 hm h hc hc2).ne (fun b o n c e=>by cases e;exact hne)
def zV (vs:LV) (Ps:List (List Nat)) (w:World):Prop:=vs.length=Ps.length∧∀ (i:Nat) (v:Value) (X:LN),vs[i]?=some v→Ps[i]?=some X→RdP v X w
theorem zV.nil {w:World}:zV [] [] w:=⟨rfl,fun i v X h1 _=>by simp at h1⟩
theorem zV.cons {v:Value} {vs:LV} {X:LN} {Ps:List (List Nat)} {w:World} (h:RdP v X w) (hs:zV vs Ps w):zV (v::vs) (X::Ps) w :=
 ⟨by simp[hs.1],fun i u Y h1 h2=>by
  cases i with
  | zero=>simp at h1 h2;subst h1;subst h2;exact h
  | succ i=>simp at h1 h2;exact hs.2 i u Y h1 h2⟩
theorem zV.snoc {v:Value} {vs:LV} {X:LN} {Ps:List (List Nat)} {w:World} (h:RdP v X w) (hs:zV vs Ps w):zV (vs++[v]) (Ps++[X]) w :=
 ⟨by simp[hs.1],fun i u Y h1 h2=>by
  have h0:=hs.1
  rcases Nat.lt_trichotomy i vs.length with hi|hi|hi
  ·rw[List.getElem?_append_left hi] at h1;rw[List.getElem?_append_left Om] at h2;exact hs.2 i u Y h1 h2
  ·rw[List.getElem?_append_right Om] at h1;rw[List.getElem?_append_right Om] at h2;rw[hi,Nat.sub_self] at h1;rw[show i - Ps.length=0 by omega] at h2;simp at h1 h2;subst h1;subst h2;exact h
  ·rw[List.getElem?_append_right Om] at h1;rw[List.getElem?_eq_none (by simp;omega)] at h1;cases h1⟩
def uE (s:LN) (n:Nat):List Nat:=be 4 s.length++s++be 4 n
def yG (Ps:List (List Nat)):List Nat:=Ps.flatMap fun p=>be 4 p.length++p
theorem qu (Ps:List (List Nat)) (X:LN):yG (Ps++[X])=yG Ps++be 4 X.length++X:=by simp[yG]
theorem qj {Ps:List (List Nat)} {i:Nat} {X:LN} (h:Ps[i]?=some X):yG (Ps.take (i+1))=yG (Ps.take i)++be 4 X.length++X:=by
 rw[List.take_add_one,h];exact qu _ _
theorem dz (Ps Qs:List (List Nat)):yG (Ps++Qs)=yG Ps++yG Qs:=by simp[yG]
def yz (s:LN) (Ps:List (List Nat)):List Nat:=uE s Ps.length++yG Ps
def hOf (s:LN) (Ps:List (List Nat)):List Nat:=Sha.sum (yz s Ps)
theorem vk {wd x:Nat}:∀ b∈be wd x,b<256:=by
 intro b hb;unfold be at hb;obtain⟨j,_,rfl⟩:=List.mem_map.1 hb;exact Nat.mod_lt _ Om
theorem aO {Ps:List (List Nat)} {i:Nat} {X:LN} (h:Ps[i]?=some X):(yG (Ps.take i)).length+4+X.length≤(yG Ps).length:=by
 have h1:=qj h;have h2:=dz (Ps.take (i+1)) (Ps.drop (i+1));rw[List.take_append_drop] at h2;rw[h2,h1];simp only[List.length_append,zk];omega
theorem aec {l xs:LN} {off b:Nat} (h1:∀ y∈l,y<b) (h2:∀ y∈xs,y<b):∀ y∈ovN l off xs,y<b:=by
 intro y hy;unfold ovN at hy
 rcases List.mem_append.1 hy with hy|hy
 ·rcases List.mem_append.1 hy with hy|hy
  ·exact h1 y (List.mem_of_mem_take hy)
  ·exact h2 y hy
 ·exact h1 y (List.mem_of_mem_drop hy)
theorem aa4:∀ (k:Nat) {s buf X:LN} {n:Nat},X.length≤k→(∀ y∈buf,y<256)→(∀ y∈X,y<256)→∀ y∈(wr s buf n X).2.1,y<256
 | 0,s,buf,X,n,hk,h1,h2=>by
  have:X=[]:=List.eq_nil_of_length_eq_zero Om;subst this;rw[nH];exact h1
 | k+1,s,buf,X,n,hk,h1,h2=>by
  by_cases hX:X=[]
  ·subst hX;rw[nH];exact h1
  ·have hp:=oI (n:=n) hX;have:=List.length_pos_iff.2 hX;rw[li hX];exact aa4 k (by rw[List.length_drop];omega) (aec h1 (tw h2 _)) (vE h2 _)
def Qk (k:Act→World→Prop) (Q:Exit→Act→World→Prop):Exit→Act→World→Prop
 | .normal,a,w=>k a w
 | e,a,w=>Q e a w
theorem Qk.out {k:Act→World→Prop} {Q:Exit→Act→World→Prop} (h:LetsOut (Qk k Q)):LetsOut Q:=h
theorem adB {P:Program} {o:Oper} {a:Act} {w:World} {k:Act→World→Prop} {Q:Exit→Act→World→Prop} (h:o.wp P a w (fun a w=>Qk k Q .normal a w) (Qk k Q)):o.wp P a w k Q:=by
 unfold Oper.wp at *;generalize (execOp a.eval o).run P w=r at *;cases r with
 | ok n w' =>
  cases n<;>simp only[Oper.upon] at h ⊢<;>first|exact h|exact Calls.mono h (fun e w'' he=>by cases e<;>first|exact he|exact Qk.out he)
 | halt x w'=>cases x<;>simp only[Oper.upon] at h ⊢<;>exact h
theorem lu {P:Program} {ops:Array Oper} {i:Nat} {o:Oper} {a:Act} {w:World} {k:Act→World→Prop} {Q:Exit→Act→World→Prop} (ho:ops[i]?=some o) (h:wpList P ops (Qk k Q) [o] a w):wpOp P ops Q i k a w:=by
 unfold wpOp;rw[ho];unfold wpList at h
 split at h
 ·rename_i hw;simp only[hw,if_true];exact h.imp (fun h=>adB h) (fun h=>⟨h.1,Qk.out h.2⟩)
 ·rename_i hw;simp only[hw];exact h
section
variable (P:Program) (w0:World) (gs:LN) (n:Nat) (ops:List Oper) (Q:Exit→Act→World→Prop) (K:List (Nat × Value)) (L:List Ent)
def WA (S:List Bool) (f:Nat):Prop:=∀ a w,a.defers=[]→a.tmps.size=n→Kn K a→Me w0 gs L w→wpAny P .any ops.toArray Q f S.toArray a w
def oO (S:List Bool) (f:Nat):List Nat→Prop
 | []=>True
 | i::r=>(∃ o,nth ops i=some o∧WO P w0 gs n ops (Qk (wpAny P .any ops.toArray Q f (S.set i true).toArray) Q) K L [o])∧oO S f r
end
section
variable {P:Program} {w0:World} {gs:LN} {n:Nat} {ops:List Oper} {Q:Exit→Act→World→Prop} {K:List (Nat × Value)} {L:List Ent}
theorem oO.at {S:List Bool} {f:Nat}:∀ {rs:LN},oO P w0 gs n ops Q K L S f rs→∀ i∈rs,∃ o,nth ops i=some o∧WO P w0 gs n ops (Qk (wpAny P .any ops.toArray Q f (S.set i true).toArray) Q) K L [o]
 | i::r,h,j,hj=>by
  rcases List.mem_cons.1 hj with rfl|hj
  ·exact h.1
  ·exact oO.at h.2 j hj
theorem WA.step {S:List Bool} {f:Nat} (rs:LN) (k:oO P w0 gs n ops Q K L S f rs) (hr:Region.ready .any ops.toArray S.toArray=rs:=by decide +kernel) (hne:rs≠[]:=by decide):WA P w0 gs n ops Q K L S (f+1):=by
 intro a w h1 h2 h3 h4;refine⟨fun h0=>absurd (hr.symm.trans h0) hne,fun i hi=>?_⟩;rw[hr] at hi;obtain⟨o,ho,hk⟩:=k.at i hi;have:=lu (k:=wpAny P .any ops.toArray Q f (S.set i true).toArray) (Q:=Q) (ops:=ops.toArray) (i:=i) (o:=o) (P:=P) (by simpa [v7] using ho) (hk a w h1 h2 h3 h4);simpa using this
theorem oO.nil {S:List Bool} {f:Nat}:oO P w0 gs n ops Q K L S f []:=trivial
theorem oO.cons {S:List Bool} {f i:Nat} {r:LN} {o:Oper} (k:WO P w0 gs n ops (Qk (wpAny P .any ops.toArray Q f (S.set i true).toArray) Q) K L [o]) (kr:oO P w0 gs n ops Q K L S f r) (ho:nth ops i=some o:=by rfl):oO P w0 gs n ops Q K L S f (i::r):=⟨⟨o,ho,k⟩,kr⟩
theorem WX.wa {S S' : List Bool} {f i:Nat} {Q' : Exit→Act→World→Prop} (k:WA P w0 gs n ops Q K L S' f) (hS:S.set i true=S':=by rfl):WX w0 gs n .normal (Qk (wpAny P .any ops.toArray Q f (S.set i true).toArray) Q') K L:=by
 subst hS;exact k
theorem Me.drawn {w:World} {d:Nat} (h:Me w0 gs L w):Me w0 gs L { w with drawn:=d } :=
 ⟨⟨h.mod.os,h.mod.tape,h.mod.output,h.mod.size,h.mod.block⟩,h.ok,h.mine,h.nodup⟩
theorem WC.all {id:Nat} {l:List Oper} [Mix P] (k:WA P w0 gs n l Q K L (List.replicate l.length false) l.length):WC P w0 gs n (.region id l.toArray true) Q K L:=by
 intro a w h1 h2 h3 h4;refine wp_region_any Mix.out ?_;have:=k a { w with drawn:=w.drawn+1 } h1 h2 h3 h4.drawn;simpa using this
end
def FnI (P:Program) (f:FuncId) (args:LV) (g t:Nat) (C:List Value→Prop) (R:World→Prop) (v:Value):Prop :=
 ∀ w cs,C cs→(⟨g,t,cs⟩ : Ent).ok w→R w→Calls P f args.toArray w (fun e w'=>e=.returned v∧Mod [g] w w'∧∃ cs',C cs'∧(⟨g,t,cs'⟩ : Ent).ok w')
def ad9 (w:World) (g t:Nat) (C:List Value→Prop) (v:Value):Ending→World→Prop:=fun e w'=>e=.returned v∧Mod [g] w w'∧∃ cs',C cs'∧(⟨g,t,cs'⟩ : Ent).ok w'
theorem FnI.enter {P:Program} {n:Nat} {f:FuncId} {fn:Func} {c:Code} {args:LV} {g t:Nat} {C:List Value→Prop} {R:World→Prop} {v:Value} (hf:P.funcs[f]?=some fn) (hb:fn.body=some c) (hn:fn.ntmps=n) (hle:Nat.ble args.length n=true)
  (k:∀ w cs,C cs→R w→WC P w [g] n c (bodyPost P fn (ad9 w g t C v)) (kin args 0) [⟨g,t,cs⟩]):FnI P f args g t C R v:=by
 intro w cs hC hok hw;refine calls_of_wp hf hb ?_;have hle' : args.length≤n:=by simpa using hle
 refine k w cs hC hw _ w rfl (by simp[hn];omega) (fun t v hv=>?_) ⟨.refl _ _,by simpa using hok,by simp,by simp⟩;obtain⟨j,h1,h2⟩:=vN args 0 t v hv;subst h1;have hj:j<args.length:=by
  rcases Nat.lt_or_ge j args.length with h|h
  ·exact h
  ·rw[List.getElem?_eq_none h] at h2;cases h2
 simp only[Nat.zero_add];rw[Array.getElem?_append_left (by simpa using hj)];simpa using h2
section
variable {P:Program} {w0:World} {gs:LN} {n:Nat} {ops:List Oper} {Q:Exit→Act→World→Prop} {K:List (Nat × Value)} {L:List Ent} {rest:List Oper}
variable {d:Nat} {op:Op} {ty:TypeId} {pos:String} {after:Array Edge} {gd:Option (Nat × Bool)}
theorem WO.callI {f:FuncId} [Cal P f] {x:Operand} {xs:Array Operand} {ats:Array TypeId} {aq fs ks aq' : List Value} {g t:Nat} {C:List Value→Prop} {cs:LV} {L2:List Ent} {R:World→Prop} {v:Value} (hc:FnI P f aq' g t C R v) (hx:ev K x=some (.func (.func f) fs.toArray ks.toArray))
  (ha:evs K xs.toList=some aq) (hh:fs++aq++ks=aq') (hp:Pk L g t cs L2) (hC:C cs) (hR:∀ w,Me w0 gs L w→R w) (ht:t≠0)
  (k:∀ cs',C cs'→WO P w0 gs n ops Q ((d,v)::K) (⟨g,t,cs'⟩::L2) rest) (hd:Nat.blt d n=true) (hw:wk ops K gd=some true) :
  WO P w0 gs n ops Q K L (⟨some d,.call { callee:=.value x,args:=xs,argTypes:=ats },ty,pos,after,gd⟩::rest):=by
 subst hh;intro a w hdf hsz hk hme;refine wpList_step fun F hF=>?_;rw[if_pos (yH (o:=⟨some d,.call { callee:=.value x,args:=xs,argTypes:=ats },ty,pos,after,gd⟩) hk hw)];have hd' : d<n:=by simpa [Nat.blt_eq] using hd
 unfold Oper.wp;rw[vo hk hx ha,Oper.upon_enter];have hme2:=hme.perm hp.perm;refine (hc w cs hC (hme2.ok _ Sm) (hR w hme)).mono ?_;rintro e w' ⟨rfl,hm,cs',hC',hok⟩;exact hF _ _ (k cs' hC' _ _ (by rw[put_defers];exact hdf) (by rw[yk];exact hsz) (hk.put Om v) (hme2.callM Rp.here hm hok ht))
theorem WX.retI {fn:Func} {g t:Nat} {C:List Value→Prop} {cs:LV} {v:Value} (hr:∀ a w,Kn K a→Me w0 [g] L w→(results fn a.tmps).run P w=.ok v w) (hN:Hs L g t cs) (hC:C cs):WX w0 [g] n .ret (bodyPost P fn (ad9 w0 g t C v)) K L:=fun a w h1 _ h3 h4 =>
 ⟨h1,v,hr a w h3 h4,rfl,h4.mod,cs,hC,h4.ok _ hN.mem⟩
end
theorem aeQ (x:Nat):Sha.be8 x=be 8 x:=by
 simp only[Sha.be8,be,List.range_succ,List.range_zero,List.nil_append,List.cons_append,List.map_cons,List.map_nil,Nat.reduceMul,Nat.reduceSub,Nat.reducePow,Nat.div_one]
def lC (n:Nat):List Nat:=128::List.replicate (Sha.pad n) 0++be 8 (8*n)
theorem acR {m:LN} (h:8*m.length<18446744073709551616):Sha.padded m=m++lC m.length:=by
 unfold Sha.padded lC;rw[Nat.mod_eq_of_lt h,aeQ];simp
theorem yZ (n:Nat):(lC n).length=Sha.pad n+9:=by simp[lC,zk]
theorem ac2 (n:Nat):∀ x∈lC n,x<256:=by
 intro x hx;unfold lC at hx
 rcases List.mem_append.1 hx with hx|hx
 ·rcases List.mem_cons.1 hx with rfl|hx
  ·omega
  ·have:=List.eq_of_mem_replicate hx;omega
 ·unfold be at hx;obtain⟨j,_,rfl⟩:=List.mem_map.1 hx;exact Nat.mod_lt _ Om
theorem ae {n l:Nat} (h1:1≤l) (h2:l≤Sha.pad n+1):(n+l)%64=56↔l=Sha.pad n+1:=by
 unfold Sha.pad at *;omega
theorem uo (s:LN):(Sha.outs s).length=4*s.length:=by
 induction s with
 | nil=>rfl
 | cons x s ih =>
  have:Sha.outs (x::s)=[x / 16777216%256,x / 65536%256,x / 256%256,x%256]++Sha.outs s:=by simp[Sha.outs]
  rw[this,List.length_append,ih];simp;omega
theorem aco (s:LN):Sha.outs s=beL 4 s:=by
 unfold Sha.outs beL;congr 1;funext x;simp only[be,List.range_succ,List.range_zero,List.nil_append,List.cons_append,List.map_cons,List.map_nil,Nat.reduceMul,Nat.reduceSub,Nat.reducePow,Nat.div_one]
theorem bM {s:LN} {i:Nat} (h:i<4*s.length):(Sha.outs s)[i]?=some (s.getD (i / 4) 0 / 2 ^ (8*(3 - i%4))%256):=by
 have hi:i / 4<s.length:=by omega
 have hm:i%4<4:=Nat.mod_lt _ Om;have:=lq (wd:=4) hm hi;rw[aco];rw[show i / 4*4+i%4=i by omega] at this;rw[this];simp[List.getD,hi]
end Sx
end
end Go.Proofs.YtiaibpcaloigkaaGreatDoor
