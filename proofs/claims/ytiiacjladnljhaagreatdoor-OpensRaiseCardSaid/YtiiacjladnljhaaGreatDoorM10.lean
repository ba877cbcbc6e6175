/- Part 10 of the proof: SxO, SxP, SxQ, Sha, ShB, ShE, ShG, SxV, SxZ -/
import Derived.Test.YtiiacjladnljhaaGreatDoorM09
import Derived.Lib.AppendZeros
import Derived.WalkKit
set_option linter.unusedSimpArgs false
set_option linter.unusedVariables false
namespace Go.Proofs.YtiiacjladnljhaaGreatDoor
open Go Go.RowKit Go.BigFrame
namespace Sx
def room (A:List Nat) (m:Nat):List Value:=byC A++List.replicate m (Value.int .u8 0)
end Sx
end Go.Proofs.YtiiacjladnljhaaGreatDoor
namespace Go.Proofs.YtiiacjladnljhaaGreatDoor
open Go Go.RowKit Go.BigFrame
namespace Sx
section
variable {P:Program} {w0:World} {gs:List Nat} {K:List (Nat × Value)} {L:List Ent}
theorem does_sliceAFrom {t len elem size g o ty l o' : Nat} {k:IntKind} {x y:Operand} [ArT P t len elem size] (hx:ev K x=some (.pointer (some ⟨g,o,none⟩))) (hy:ev K y=some (.int k (l:Int))) (hl:l<len) (ho' : o+l*size=o') :
    Does P w0 gs K L (.slice t x (some y) none none) ty (.slice (some ⟨g,o',none⟩) (len - l) (len - l)):=by
  intro a w hk _ oo ho _
  subst ho'
  have hu:∀ w,(underlying t).run P w=.ok (.array len elem) w:=fun w=>by simp[underlying,ArT.under (P:=P) (t:=t)]
  have hb:((0:Int)≤(l:Int)∧(l:Int)≤(len:Int)):=by omega
  have hne:¬ len=l:=by omega
  simp only[execOp,ho,hk.eval hx,Option.map_none,Option.map_some,hk.eval hy,Instr.sliceAt,Sem.run_bind,hu,Result.andThen_ok,Instr.sureAddr,Sem.run_pure,Instr.sliceBounds,Instr.sliceBound,asIntOf,if_pos hb,ArT.size (P:=P) (t:=t),Int.toNat_natCast]
  simp[hne,add_mk]
end
end Sx
end Go.Proofs.YtiiacjladnljhaaGreatDoor
namespace Go.Proofs.YtiiacjladnljhaaGreatDoor
open Go Go.RowKit Go.BigFrame
namespace Sx
theorem Rds.perm {w0:World} {gs:List Nat} {L L1:List Ent} {v:Value} {n:Nat} {xs:List Value} (h:Rds w0 gs L v n xs) (hp:L.Perm L1):Rds w0 gs L1 v n xs:=by
  obtain⟨p,c,rfl,h|⟨b,o,rfl,hr⟩⟩:=h
  · exact⟨p,c,rfl,.inl h⟩
  · exact⟨_,c,rfl,.inr ⟨b,o,rfl,fun w hm=>hr w ⟨hm.mod,fun e he=>hm.ok e (hp.mem_iff.1 he)⟩⟩⟩
theorem over_end {xs r ys:List Value}:over (xs++r) xs.length ys=xs++ys++r.drop ys.length:=by
  unfold over
  rw[List.take_left,List.drop_append,List.drop_of_length_le (by omega),List.nil_append,show xs.length+ys.length - xs.length=ys.length by omega]
end Sx
end Go.Proofs.YtiiacjladnljhaaGreatDoor
namespace Go.Proofs.YtiiacjladnljhaaGreatDoor
namespace Sha
def take (s b:List Nat):List Nat:=addW (rnds s (words b 64) 64) s
def sum (m:List Nat):List Nat:=outs (takes H0 (padded m) ((padded m).length / 64))
example:sum [97,98,99]=[0xba,0x78,0x16,0xbf,0x8f,0x01,0xcf,0xea,0x41,0x41,0x40,0xde,0x5d,0xae,0x22,0x23,0xb0,0x03,0x61,0xa3,0x96,0x17,0x7a,0x9c,0xb4,0x10,0xff,0x61,0xf2,0x00,0x15,0xad]:=by decide +kernel
end Sha
end Go.Proofs.YtiiacjladnljhaaGreatDoor
namespace Go.Proofs.YtiiacjladnljhaaGreatDoor
open Go Go.RowKit
namespace Sx
def w3C (l:List Nat):List Value:=l.map fun (b:Nat)=>Value.int .u32 (b:Int)
end Sx
end Go.Proofs.YtiiacjladnljhaaGreatDoor
namespace Go.Proofs.YtiiacjladnljhaaGreatDoor
open Go Go.RowKit Go.BigFrame
namespace Sx
@[irreducible] def addW (k:IntKind) (m n:Int):Int:=k.wrap (m+n)
theorem eight {s:List Nat} (h:s.length=8):∃ a b c d e f g k,s=[a,b,c,d,e,f,g,k]:=by
  match s,h with
  | [a,b,c,d,e,f,g,k],_=>exact⟨a,b,c,d,e,f,g,k,rfl⟩
end Sx
end Go.Proofs.YtiiacjladnljhaaGreatDoor
namespace Go.Proofs.YtiiacjladnljhaaGreatDoor
open Go Go.RowKit Go.BigFrame
namespace Sx
def ovN (l:List Nat) (off:Nat) (xs:List Nat):List Nat:=l.take off++xs++l.drop (off+xs.length)
def wrK (n:Nat) (X:List Nat):Nat:=min X.length (64 - n%64)
theorem wrK_pos {n:Nat} {X:List Nat} (h:X≠[]):0<wrK n X:=by
  have:=List.length_pos_iff.2 h
  have:=Nat.mod_lt n (show 0<64 by omega)
  unfold wrK;omega
def wr (s buf:List Nat) (n:Nat) (X:List Nat):List Nat × List Nat × Nat :=
  if h:X=[] then (s,buf,n) else
    wr (if n%64+wrK n X=64 then Sha.take s (ovN buf (n%64) (X.take (wrK n X))) else s) (ovN buf (n%64) (X.take (wrK n X))) (n+wrK n X) (X.drop (wrK n X))
termination_by X.length
decreasing_by
  have h1:=wrK_pos (n:=n) h
  have:=List.length_pos_iff.2 h
  rw[List.length_drop];omega
end Sx
end Go.Proofs.YtiiacjladnljhaaGreatDoor
namespace Go.Proofs.YtiiacjladnljhaaGreatDoor
open Go Go.RowKit Go.BigFrame
namespace Sx
section
variable {P:Program} {w0:World} {gs:List Nat} {n:Nat} {ops:List Oper} {Q:Exit→Act→World→Prop} {K:List (Nat × Value)} {L:List Ent} {rest:List Oper}
theorem WO.ndp (k:(L.map Ent.g).Nodup→WO P w0 gs n ops Q K L rest):WO P w0 gs n ops Q K L rest:=fun a w h1 h2 h3 h4=>k h4.nodup a w h1 h2 h3 h4
theorem WC.ndp' {c:Code} (k:(L.map Ent.g).Nodup→WC P w0 gs n c Q K L):WC P w0 gs n c Q K L:=fun a w h1 h2 h3 h4=>k h4.nodup a w h1 h2 h3 h4
theorem WO.mine (k:(∀ e∈L,w0.heap.size≤e.g∨e.g∈gs)→WO P w0 gs n ops Q K L rest):WO P w0 gs n ops Q K L rest:=fun a w h1 h2 h3 h4=>k h4.mine a w h1 h2 h3 h4
theorem WC.mine {c:Code} (k:(∀ e∈L,w0.heap.size≤e.g∨e.g∈gs)→WC P w0 gs n c Q K L):WC P w0 gs n c Q K L:=fun a w h1 h2 h3 h4=>k h4.mine a w h1 h2 h3 h4
end
def hHead (s:List Nat) (n:Nat):List Nat:=be 4 s.length++s++be 4 n
def hBody (Ps:List (List Nat)):List Nat:=Ps.flatMap fun p=>be 4 p.length++p
def hBytes (s:List Nat) (Ps:List (List Nat)):List Nat:=hHead s Ps.length++hBody Ps
def hOf (s:List Nat) (Ps:List (List Nat)):List Nat:=Sha.sum (hBytes s Ps)
end Sx
end Go.Proofs.YtiiacjladnljhaaGreatDoor
namespace Go.Proofs.YtiiacjladnljhaaGreatDoor
open Go Go.RowKit Go.BigFrame
namespace Sx
end Sx
end Go.Proofs.YtiiacjladnljhaaGreatDoor
