/- Part 53 of the proof. -/
import Derived.Test.YteibfbjpkjkejaaGreatDoorS51
import Derived.Test.YteibfbjpkjkejaaGreatDoorS52
set_option linter.unusedSimpArgs false
set_option linter.unusedVariables false
namespace Go.Proofs.YteibfbjpkjkejaaGreatDoor
section
open Go Go.RowKit Go.BigFrame Go.WideShapes
namespace Sx
section
variable {H:Type} {enc:TypeId × Value→H} {w:World} {base:Nat} {spare:Nat→Bool} {held:Bool} {fuel:Nat} {cs:List Value} {x:DataW H × List MemPlace}
theorem lZ {P:Program} {N:Nat} {t e:TypeId} (ht:P.underlying t=some (.array N e)) (he:P.underlying e=some (.int .u8)) (hN:P.cellsOf t=N) (h1:P.cellsOf e=1) (h:DataW.trod enc P w base spare held fuel t cs=some x):∃ A:List Nat,(∀ b∈A,b<256)∧A.length=N∧cs=byC A:=by
 obtain⟨xs,m,_,_,hl,hlen,hp⟩:=DataW.trod_array ht h;rw[hN] at hl;have k:∀ i,i<N→∃ n:Nat,n<256∧cs[i]?=some (.int .u8 (n:Int)):=fun i hi=>by
  have h2:=hp i hi;rw[List.getElem?_eq_getElem (by omega),h1,Nat.mul_one] at h2;obtain⟨n,hn,e⟩:=oC he h2;have h3:=uw (cs:=cs) (off:=i) (n:=1) e (j:=0) (v:=.int .u8 (n:Int)) rfl;exact⟨n,hn,h3⟩
 have kv:∀ v∈cs,∃ n:Nat,n<256∧v=.int .u8 (n:Int):=fun v hv=>by
  obtain⟨i,hi,hvi⟩:=List.getElem_of_mem hv;obtain⟨n,hn,e⟩:=k i (by omega);rw[List.getElem?_eq_getElem hi,hvi] at e;exact⟨n,hn,Option.some.inj e⟩
 refine⟨cs.map fun v=>(match v with|.int _ n=>n.toNat|_=>0),fun b hb=>?_,by rw[List.length_map];exact hl,?_⟩
 ·obtain⟨v,hv,rfl⟩:=List.mem_map.1 hb;obtain⟨n,hn,rfl⟩:=kv v hv;simpa using hn
 ·unfold byC;rw[List.map_map];have h3:cs.map id=cs:=List.map_id cs
  conv=>lhs;rw[← h3]
  apply List.map_congr_left;intro v hv;obtain⟨n,hn,rfl⟩:=kv v hv;simp
theorem aai:Tryz.prog.cellsOf 60=32:=by kernel_rfl
theorem aba:Tryz.prog.cellsOf 58=1:=by kernel_rfl
theorem aaN:Tryz.prog.cellsOf 70=57:=by kernel_rfl
theorem acL (h:DataW.trod enc Tryz.prog w base spare held fuel 58 cs=some x):∃ pt l c,cs=[.slice pt (List.length l) c]∧(∀ a∈l,aex w a)∧RdE dqF (.slice pt l.length c) l w :=
 pA Tryz.underlying58 afb (by decide) (fun _=>rfl) (fun _ _ _ h=>by
  obtain⟨d,pt,P,c,h1,h2,h3,h4⟩:=afc h;exact⟨⟨d,pt,P,c⟩,⟨h1,h2,h4⟩,h3⟩) h
theorem ade (h:DataW.trod enc Tryz.prog w base spare held fuel 70 cs=some x) (hs:∀ a l c,cs[22]?=some (.slice (some a) l c)→a.spot=none) :
  ∃ p q g u a f sec pt ks c pl l cl A at',(p<zd∧q<zd∧g<zd∧u<zd∧a<zd)∧(-9223372036854775808≤f∧f≤9223372036854775807∧-9223372036854775808≤sec∧sec≤9223372036854775807)∧yz ks∧(∀ y∈l,aex w y)∧(∀ b∈A,b<256)∧A.length=32∧at' < 256 ∧
   cs=seC (csC p q g u a f sec (.slice pt (List.length ks) c)) (.slice pl (List.length l) cl) A at'∧RdF yw (.slice pt ks.length c) ks w∧RdE dqF (.slice pl l.length cl) l w:=by
 have hl:=uG Tryz.underlying70 aaN h;obtain⟨_,_,h0⟩:=ye Tryz.underlying70 h (i:=0) (off:=0) (ty:=29) rfl rfl rfl aaD;obtain⟨_,_,h1⟩:=ye Tryz.underlying70 h (i:=1) (off:=23) (ty:=58) rfl rfl rfl aba;obtain⟨_,_,h2⟩:=ye Tryz.underlying70 h (i:=2) (off:=24) (ty:=60) rfl rfl rfl aai;obtain⟨_,_,h3⟩:=ye Tryz.underlying70 h (i:=3) (off:=56) (ty:=5) rfl rfl rfl aeW;obtain⟨p,q,g,u,a,f,sec,pt,ks,c,b1,b2,b3,e0,hR⟩:=adB h0 (fun a l c e=>hs a l c (by have:=aK e;rwa [Nat.zero_add] at this));obtain⟨pl,l,cl,e1,hL,hR2⟩:=acL h1;obtain⟨A,hA1,hA2,e2⟩:=lZ Tryz.underlying60 Tryz.underlying5 aai aeW h2;obtain⟨at',hat,e3⟩:=oC Tryz.underlying5 h3;refine⟨p,q,g,u,a,f,sec,pt,ks,c,pl,l,cl,A,at',b1,b2,b3,hL,hA1,hA2,hat,?_,hR,hR2⟩;rw[← zz hl,← yJ cs 0 23 34,← yJ cs (0+23) 1 33,← yJ cs (0+23+1) 32 1,e0,e1,e2,e3];rfl
end
end Sx
end
end Go.Proofs.YteibfbjpkjkejaaGreatDoor
namespace Go.Proofs.YteibfbjpkjkejaaGreatDoor.Ou
section
open Go Go.RowKit Go.BigFrame Go.ChangeShapes Go.WideShapes Go.ChangeAt Sx
theorem aW:Tryz.prog.readableRec 70=true:=by kernel_rfl
theorem jJ:Tryz.prog.cellTypes Tryz.prog.depth 70=some (List.replicate 20 22++[3,3,27,58]++List.replicate 33 5):=by kernel_rfl
end
end Go.Proofs.YteibfbjpkjkejaaGreatDoor.Ou
