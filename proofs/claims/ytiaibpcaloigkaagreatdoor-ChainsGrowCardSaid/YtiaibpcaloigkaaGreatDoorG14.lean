/- Part 14 of the proof. -/
import Derived.Test.YtiaibpcaloigkaaGreatDoorG11
import Derived.Test.YtiaibpcaloigkaaGreatDoorG13
set_option linter.unusedSimpArgs false
set_option linter.unusedVariables false
set_option maxHeartbeats 8000000
namespace Go.Proofs.YtiaibpcaloigkaaGreatDoor
section
open Go Go.RowKit Go.BigFrame
namespace Sx
section
variable {w0:World} {gs:LN} {K:List (Nat × Value)} {L:List Ent}
theorem fN {x y:Operand} {ty:TypeId} {a i:Nat} (h:i<4) (hx:ev K x=some (zk a):=by rfl) (hy:ev K y=some (.int .i64 (i:Int)):=by rfl) :
  Does Tryz.prog w0 gs K L (.index 24 x y) ty (.int .u64 ((wd i a:Nat):Int)):=by
 intro ac w hk _ o ho _;have:=nj a h w;simp only[execOp,ho,hk.eval hx,hk.eval hy,Sem.run_bind,this,Result.andThen_ok,Sem.run_pure]
theorem ji {x:Operand} {ty g o c:Nat} (hx:ev K x=some (.slice (some ⟨g,o,none⟩) 4 c):=by rfl) :
  Does Tryz.prog w0 gs K L (.sliceToArrayPointer 24 x) ty (.pointer (some ⟨g,o,none⟩)):=by
 intro ac w hk _ oo ho _;have:=run_arrayAt g o c w;simp only[execOp,ho,hk.eval hx,Sem.run_bind,this,Result.andThen_ok,Sem.run_pure]
theorem nw {P:Program} {t len elem size g o ty h:Nat} {k:IntKind} {x y:Operand} [ArT P t len elem size] (hx:ev K x=some (.pointer (some ⟨g,o,none⟩))) (hy:ev K y=some (.int k (h:Int))) (hh:h≤len) :
  Does P w0 gs K L (.slice t x none (some y) none) ty (.slice (some ⟨g,o,none⟩) h len):=by
 intro a w hk _ oo ho _;have hu:∀ w,(underlying t).run P w=.ok (.array len elem) w:=fun w=>by simp[underlying,ArT.under (P:=P) (t:=t)]
 have hb:((0:Int)≤(h:Int)∧(h:Int)≤(len:Int)):=by omega
 simp only[execOp,ho,hk.eval hx,Option.map_none,Option.map_some,hk.eval hy,Instr.sliceAt,Sem.run_bind,hu,Result.andThen_ok,Instr.sureAddr,Sem.run_pure,Instr.sliceBounds,Instr.sliceBound,asIntOf,if_pos hb,ArT.size (P:=P) (t:=t),Int.toNat_natCast,Nat.zero_mul,Nat.sub_zero];simp[vS]
end
theorem lc (l:LN) (j v:Nat) (h:j<l.length):over (lp l) j [.int .u64 ((v:Nat):Int)]=lp (l.set j v):=by
 rw[← aa3,List.set_eq_take_append_cons_drop,if_pos (by unfold lp;rwa [List.length_map])];simp[over]
theorem j6 (l:LN):(lp l).length=l.length:=List.length_map ..
attribute [local irreducible] wd DQ WO WC WX
theorem ahB (a b:Nat) (ha:a<ze) (hb:b<ze):Fn Tryz.prog 185 [zk a,zk b] Tr (Is (.tuple #[zk (a*b%ze),zk (a*b / ze)])):=by
 refine Fn.enter Tryz.func185 rfl rfl rfl ?_;intro w hw
 repeat (first|refine Tk ?_|intro _|exact Tz)
 rename_i gA gB g4 g5 gL;refine WC.loopI (σ:=Nat × List Nat) (fun s=>s.1≤4∧uR a b s.1 0 0 s.2) (fun s=>[(6,Sx.pt gL),(5,Sx.pt g5),(4,Sx.pt g4),(3,Sx.pt gB),(12,zk a),(13,.int .i64 ((s.1:Nat):Int))]) (fun s=>[⟨gL,326,lp s.2⟩,⟨g5,24,zc 0⟩,⟨g4,24,zc 0⟩,⟨gB,24,zc b⟩]) (fun s=>4 - s.1) (0,List.replicate 8 0) (fun s hs=>?_) ⟨by decide,uR.start a b⟩;obtain⟨n,l⟩:=s;obtain⟨hn,hI⟩:=hs
 try dsimp only at hn hI ⊢
 by_cases hlt:n<4
 ·repeat (first|refine Tk ?_|intro _|exact Tz)
  refine WC.dT rfl Om ?_
  repeat (first|refine WO.does (fN hlt) ?_|refine Tj ?_|intro _|refine Tc ?_|exact Tz)
  refine WC.loopI (σ:=Nat × Nat × List Nat) (fun s=>s.1≤4∧uR a b n s.1 s.2.1 s.2.2) (fun s=>[(6,Sx.pt gL),(5,Sx.pt g5),(4,Sx.pt g4),(3,Sx.pt gB),(12,zk a),(13,.int .i64 ((n:Nat):Int)),(7,.int .i64 ((n:Nat):Int)),(8,.int .u64 ((wd n a:Nat):Int)),(17,zk b),(9,.int .u64 ((s.2.1:Nat):Int)),(18,.int .i64 ((s.1:Nat):Int))]) (fun s=>[⟨gL,326,lp s.2.2⟩,⟨g5,24,zc 0⟩,⟨g4,24,zc 0⟩,⟨gB,24,zc b⟩]) (fun s=>4 - s.1) (0,0,l) (fun s hs=>?_) ⟨Nat.zero_le _,hI⟩;obtain⟨k,m,l2⟩:=s;obtain⟨hk,hJ⟩:=hs
  try dsimp only at hk hJ ⊢
  have hlen:=hJ.1
  by_cases hkt:k<4
  ·have hstep:=hJ.step hlt hkt;have hlx:l2.getD (n+k) 0<18446744073709551616:=by
    rw[List.getD_eq_getElem?_getD,List.getElem?_eq_getElem Om,Option.getD_some];exact hJ.2.1 _ (List.getElem_mem _)
   have hT:=ae5 (wd n a) (wd k b) (l2.getD (n+k) 0) m (yd n a) (yd k b) hlx hJ.2.2.1;have hg:=aav (l:=l2) (j:=n+k) Om;have hov:=fun v=>lc l2 (n+k) v Om;have hnk:IntKind.i64.wrap ((n:Int)+(k:Int))=((n+k:Nat):Int):=zl Om Om Om;have hk1:IntKind.i64.wrap ((k:Int)+1)=((k+1:Nat):Int):=zl Om Om Om;have hul:=j6 l2;generalize (wd n a*wd k b+l2.getD (n+k) 0+m)%18446744073709551616=R at *;generalize (wd n a*wd k b+l2.getD (n+k) 0+m) / 18446744073709551616=H at *
   repeat (first|refine Tk ?_|intro _|exact Tz)
   refine WC.dT rfl Om ?_
   repeat (first|refine WO.does (fN hkt) ?_|refine WO.does (zi rfl rfl hnk) ?_|refine WO.does (zx (hc:=hg)) ?_|refine WO.stores (zo (vs:=[.int .u64 ((R:Nat):Int)]) (cs':=lp (l2.set (n+k) R)) (hc:=hov R) (hle:=by rw[hul,Nat.ble_eq];show n+k+1≤_;omega)) ?_|refine WO.does (zi rfl rfl hk1) ?_|refine Tj ?_|intro _|refine WO.acall (hc:=hT) (k:=?_)|refine Tc ?_|exact Tz)
   exact WX.metI (k+1,H,l2.set (n+k) R) (hs:=⟨⟨by show k+1≤4;omega,hstep⟩,by show 4 - (k+1)<4 - k;omega⟩)
  ·obtain rfl:k=4:=by omega
   have hnx:=hJ.next hb hlt
   have hov:=fun v=>lc l2 (n+4) v Om;have hn4:IntKind.i64.wrap ((n:Int)+4)=((n+4:Nat):Int):=zl Om Om Om;have hn1:IntKind.i64.wrap ((n:Int)+1)=((n+1:Nat):Int):=zl Om Om Om;have hul:=j6 l2
   repeat (first|refine Tk ?_|intro _|exact Tz)
   repeat (first|refine WO.does (zi rfl rfl hn4) ?_|refine WO.stores (zo (vs:=[.int .u64 ((m:Nat):Int)]) (cs':=lp (l2.set (n+4) m)) (hc:=hov m) (hle:=by rw[hul,Nat.ble_eq];show n+4+1≤_;omega)) ?_|refine WO.does (zi rfl rfl hn1) ?_|refine Tj ?_|intro _|refine Tc ?_|exact Tz)
   exact WX.metI (n+1,l2.set (n+4) m) (hs:=⟨⟨by show n+1≤4;omega,hnx⟩,by show 4 - (n+1)<4 - n;omega⟩)
 ·obtain rfl:n=4:=by omega
  have hend:=aeH hI ha;have hlen:=hI.1;have hbl:=hI.2.1;clear hI hn hlt
  match l,hlen with
  | [x0,x1,x2,x3,x4,x5,x6,x7],_ =>
  have e1:cut (lp [x0,x1,x2,x3,x4,x5,x6,x7]) 0 4=zc (a*b%ze):=by
   have:=congrArg cellsOf (oU (hbl x0 Sm) (hbl x1 Sm) (hbl x2 Sm) (hbl x3 Sm));rw[← hend.1];exact this
  have e2:cut (lp [x0,x1,x2,x3,x4,x5,x6,x7]) 4 4=zc (a*b / ze):=by
   have:=congrArg cellsOf (oU (hbl x4 Sm) (hbl x5 Sm) (hbl x6 Sm) (hbl x7 Sm));rw[← hend.2];exact this
  clear hend hbl;generalize a*b%ze=lo at *;generalize a*b / ze=hi at *;generalize lp [x0,x1,x2,x3,x4,x5,x6,x7]=M at *
  repeat (first|refine Tk ?_|intro _|exact Tz)
  refine WC.mainA [6,7] [(0,AQ gL 4 8),(1,pt gL),(2,zk lo),(3,.slice (some ⟨gL,4,none⟩) 4 4),(4,.pointer (some ⟨gL,4,none⟩)),(5,zk hi)] Dtt (fun A hA=>?_);refine WT.given [(6,Sx.pt gL),(5,Sx.pt g5),(4,Sx.pt g4)] [⟨gL,326,M⟩] Kr (Tlv.a (Tlv.a (Tlv.a (Tlv.a (Tlv.a (Tlv.a (Tlv.nil) (h:=by refine Qux.does ?_;exact (zw (vs:=zc hi) (hc:=e2)))) (h:=by refine Qux.does ?_;exact ji)) (h:=by refine Qux.does ?_;exact (tg (len:=8) (g:=gL) (o:=0) (l:=4) (k:=.i64) rfl rfl Dtt rfl))) (h:=by refine Qux.does ?_;exact (zw (vs:=zc lo) (hc:=e1)))) (h:=by refine Qux.does ?_;exact ji)) (h:=by refine Qux.does ?_;exact (nw (h:=4) rfl rfl Dtt))) (fun hc hT=>?_)
  suffices hS192:A [7,6] [(6,Sx.pt gL),(5,Sx.pt g5),(4,Sx.pt g4)] [⟨gL,326,M⟩,⟨g5,24,zc hi⟩,⟨g4,24,zc lo⟩] by
   have hS64:A [6] [(6,Sx.pt gL),(5,Sx.pt g5),(4,Sx.pt g4)] [⟨gL,326,M⟩,⟨g5,24,zc 0⟩,⟨g4,24,zc lo⟩]:=by
    refine (hA _ _ _).2 (WT.step [7] Dtt hc hT ⟨⟨_,rfl,?_⟩,trivial⟩)
    ·refine Tw ?_;exact WT.go [] hA (hS192)
   have hS0:A [] [(6,Sx.pt gL),(5,Sx.pt g5),(4,Sx.pt g4)] [⟨gL,326,M⟩,⟨g5,24,zc 0⟩,⟨g4,24,zc 0⟩]:=by
    refine (hA _ _ _).2 (WT.step [6] Dtt hc hT ⟨⟨_,rfl,?_⟩,trivial⟩)
    ·refine Tw ?_;exact WT.go [] hA (hS64)
   exact WT.less ((hA _ _ _).1 hS0) Dtt Kle.a (by repeat (first|exact Lle.nil|exact Lle.same|refine Lle.c ?_))
  refine (hA _ _ _).2 (WT.fin [6,7] 6 hc rfl Kr ?_);clear hc hT hA
  repeat (first|refine Tk ?_|intro _|exact Tz)
  done
end Sx
end
section
open Go Go.RowKit Go.BigFrame
namespace Sx
attribute [local irreducible] DQ WC WO WX wd
theorem kQ (a:Nat) (ha:a<ze):Fn Tryz.prog 223 [zk a] Tr (Is (.bool (uT a))):=by
 have hs:=pC a;have hB:=jG a ha;rw[← hs];refine Fn.enter Tryz.func223 rfl rfl rfl ?_;intro w hw
 repeat (first|refine Tj ?_|intro _|refine WO.acall (hc:=hB) (k:=?_)|refine Tc ?_|exact Tz)
 done
theorem acf (r b m:Nat) (hr:r<m) (hm:m<ze) (hb:b≤1) :
  Fn Tryz.prog 226 [zk r,.int .u64 (b:Int),zk m] Tr (Is (.tuple #[zk (bL r b m),.int .u64 (ay r b m:Nat)])):=by
 have hrB:r<ze:=by omega
 obtain⟨o0,o1,o2,o3,hlt⟩:=or_bit r b hrB hb;have hA:=afa r r hrB hrB;have hS:=ad0 ((r+r)%ze+b) m hlt hm
 have hcase:((r+r) / ze=0∧bw ((r+r)%ze+b) m 0=1∧bL r b m=(r+r)%ze+b∧ay r b m=0) ∨
   ((r+r) / ze=1∧bL r b m=((r+r)%ze+b+ze - m)%ze∧ay r b m=1) ∨
   ((r+r) / ze=0∧bw ((r+r)%ze+b) m 0=0∧bL r b m=((r+r)%ze+b+ze - m)%ze∧ay r b m=1):=by
  by_cases h:r+r+b<m
  ·exact .inl (aen hr hm hb h)
  ·obtain⟨e1|⟨e1,e1'⟩,e2,e3⟩:=aI hr hm hb Om
   ·exact .inr (.inl ⟨e1,e2,e3⟩)
   ·exact .inr (.inr ⟨e1,e1',e2,e3⟩)
 have hst:over (zc ((r+r)%ze)) 0 [.int .u64 ((wd 0 ((r+r)%ze+b):Nat):Int)]=zc ((r+r)%ze+b):=by
  unfold zc;rw[o1,o2,o3];rfl
 clear o1 o2 o3;generalize (r+r) / ze=c at *;generalize bw ((r+r)%ze+b) m 0=l at *;generalize ((r+r)%ze+b+ze - m)%ze=y at *;generalize (r+r)%ze+b=X1 at *;generalize (r+r)%ze=X at *
 rcases hcase with ⟨rfl,rfl,e3,e4⟩|⟨rfl,e3,e4⟩|⟨rfl,rfl,e3,e4⟩
 all_goals
  rw[e3,e4];refine Fn.enter Tryz.func226 rfl rfl rfl ?_;intro w hw
  repeat (first|refine WO.does (uK rfl rfl o0) ?_|refine WO.stores (zo (vs:=[.int .u64 ((wd 0 X1:Nat):Int)]) (cs':=zc X1) (hc:=hst)) ?_|refine Tj ?_|intro _|refine WO.acall (hc:=hA) (k:=?_)|refine WO.acall (hc:=hS) (k:=?_)|refine Tc ?_|exact Tz)
  done
theorem abE (a b:Nat) (ha:a<ze) (hb:b<ze) (hDv:∀ x y:Nat,x<ze→y<ze→0<y→Fn Tryz.prog 215 [zk x,zk y] Tr (Is (.tuple #[zk (x / y),zk (x%y),.int .i64 0]))):Fn Tryz.prog 214 [zk a,zk b] Tr (Is (zk (Nat.gcd a b))):=by
 refine Fn.enter Tryz.func214 rfl rfl rfl ?_;intro w hw
 repeat (first|refine Tk ?_|intro _|exact Tz)
 rename_i g2 g3 g4;refine WC.loopI (σ:=Nat × Nat) (fun s=>s.1<ze∧s.2<ze∧Nat.gcd s.1 s.2=Nat.gcd a b) (fun _=>[(4,Sx.pt g4),(3,Sx.pt g3),(2,Sx.pt g2)]) (fun s=>[⟨g4,24,zc 0⟩,⟨g3,24,zc s.2⟩,⟨g2,24,zc s.1⟩]) (fun s=>s.2) (a,b) (fun s hs=>?_) ⟨ha,hb,rfl⟩;obtain⟨x,y⟩:=s;obtain⟨hx,hy,hg⟩:=hs
 try dsimp only at hx hy hg ⊢
 have hz:=zE
 by_cases h0:y=0
 ·subst h0;rw[← hg,Nat.gcd_zero_right]
  repeat (first|refine Tk ?_|intro _|exact Tz)
  done
 ·have hD:=hDv x y hx hy Om;have hlt:=Nat.mod_lt x (show 0<y by omega);have hg2:Nat.gcd y (x%y)=Nat.gcd a b:=by rw[← hg,Nat.gcd_comm x y,Nat.gcd_rec y x,Nat.gcd_comm]
  generalize x%y=r at *;generalize x / y=q at *
  repeat (first|refine Tk ?_|intro _|exact Tz)
  refine WC.dF rfl h0 ?_
  repeat (first|refine Tj ?_|intro _|refine WO.acall (hc:=hD) (k:=?_)|refine Tc ?_|exact Tz)
  rename_i g5 g6;refine WC.mainA [0,2,3] [(1,zk r)] Dtt (fun A hA=>?_);refine WT.given [(4,Sx.pt g4),(3,Sx.pt g3),(2,Sx.pt g2),(6,Sx.pt g6)] [⟨g6,24,zc r⟩] Kr (Tlv.a (Tlv.nil) (h:=by refine Qux.does ?_;exact (zw (vs:=zc r)))) (fun hc hT=>?_)
  suffices hS13:A [3,2,0] [(18,zk y),(4,Sx.pt g4),(3,Sx.pt g3),(2,Sx.pt g2),(6,Sx.pt g6)] [⟨g4,24,zc 0⟩,⟨g3,24,zc r⟩,⟨g2,24,zc y⟩,⟨g6,24,zc r⟩] by
   have hS5:A [2,0] [(18,zk y),(4,Sx.pt g4),(3,Sx.pt g3),(2,Sx.pt g2),(6,Sx.pt g6)] [⟨g4,24,zc 0⟩,⟨g3,24,zc y⟩,⟨g2,24,zc y⟩,⟨g6,24,zc r⟩]:=by
    refine (hA _ _ _).2 (WT.step [3] Dtt hc hT ⟨⟨_,rfl,?_⟩,trivial⟩)
    ·refine Tw ?_;exact WT.go [] hA (hS13)
   have hS1:A [0] [(18,zk y),(4,Sx.pt g4),(3,Sx.pt g3),(2,Sx.pt g2),(6,Sx.pt g6)] [⟨g4,24,zc 0⟩,⟨g3,24,zc y⟩,⟨g2,24,zc x⟩,⟨g6,24,zc r⟩]:=by
    refine (hA _ _ _).2 (WT.step [2] Dtt hc hT ⟨⟨_,rfl,?_⟩,trivial⟩)
    ·refine Tw ?_;exact WT.go [] hA (hS5)
   have hS0:A [] [(4,Sx.pt g4),(3,Sx.pt g3),(2,Sx.pt g2),(6,Sx.pt g6)] [⟨g4,24,zc 0⟩,⟨g3,24,zc y⟩,⟨g2,24,zc x⟩,⟨g6,24,zc r⟩]:=by
    refine (hA _ _ _).2 (WT.step [0] Dtt hc hT ⟨⟨_,rfl,?_⟩,trivial⟩)
    ·refine Tw ?_;exact WT.go [(18,zk y)] hA (hS1)
   exact WT.less ((hA _ _ _).1 hS0) Dtt Kle.a (by repeat (first|exact Lle.nil|exact Lle.same|refine Lle.c ?_))
  refine (hA _ _ _).2 (WT.fin [0,2,3] 6 hc rfl Kr ?_);clear hc hT hA
  repeat (first|refine Tk ?_|intro _|exact Tz)
  exact WX.metI (y,r) (hs:=⟨⟨hy,Nat.lt_trans hlt hy,hg2⟩,hlt⟩)
end Sx
end
section
open Go Go.RowKit Go.BigFrame
namespace Sx
theorem bo (hi lo y:Nat) (h1:lo<18446744073709551616) (h2:y<18446744073709551616) (h3:hi<y) :
  Fn Tryz.prog 184 [.int .u64 (hi:Int),.int .u64 (lo:Int),.int .u64 (y:Int)] Tr (Is (.tuple #[.int .u64 (((hi*18446744073709551616+lo) / y:Nat):Int),.int .u64 (((hi*18446744073709551616+lo)%y:Nat):Int)])):=.of fun w=>qJ hi lo y h1 h2 h3 w
theorem ii {b:Nat} (h:b<18446744073709551616):wd 0 b=b:=Nat.mod_eq_of_lt h
attribute [local irreducible] wd DQ WO WC WX
theorem agn (a b:Nat) (ha:a<ze) (h0:0<b) (hs:b<18446744073709551616):Fn Tryz.prog 215 [zk a,zk b] Tr (Is (.tuple #[zk (a / b),zk (a%b),.int .i64 0])):=by
 have hbB:b<ze:=ab8 b hs;have hsh:uT b=true:=by simp[uT,hs]
 have hS:=kQ b hbB;rw[hsh] at hS;have hb0:¬ b=0:=by omega
 refine Fn.enter Tryz.func215 rfl rfl rfl ?_;intro w hw
 repeat (first|refine Tk ?_|intro _|exact Tz)
 refine WC.dF rfl hb0 ?_
 repeat (first|refine Tj ?_|intro _|refine WO.acall (hc:=hS) (k:=?_)|refine Tc ?_|exact Tz)
 rename_i g2 g3 g4 g5;have hb0':=ii hs;refine WC.loopI (σ:=Nat) (fun k=>k≤4) (fun k=>[(7,.int .i64 ((k:Int) - 1)),(6,.int .i64 0),(5,Sx.pt g5),(4,Sx.pt g4),(3,Sx.pt g3),(2,Sx.pt g2)]) (fun k=>[⟨g5,24,jp (tD a b k)⟩,⟨g4,24,qC (a / b) k⟩,⟨g3,24,zc b⟩,⟨g2,24,zc a⟩]) (fun k=>k) 4 (fun k hk=>?_) Dtt Kle.a (by rw[aew,eR ha,oq Dtt,← bG];repeat (first|exact Lle.nil|refine Lle.c ?_))
 try dsimp only at hk ⊢
 rcases k with _|k
 ·rw[aem,oq (Nat.lt_trans (jR a 0 h0) hs),iR];generalize a / b=q at *;generalize a%b=r at *
  repeat (first|refine WO.does (zY rfl rfl Dtt) ?_|refine Tj ?_|intro _|refine Tc ?_|exact Tz)
  refine WC.mainA [0,1,2,3,4] [] Dtt (fun A hA=>?_);refine WT.given [(5,Sx.pt g5),(4,Sx.pt g4)] [⟨g2,24,zc a⟩] Kr (Tlv.nil) (fun hc hT=>?_)
  suffices hS31:A [4,3,2,1,0] [(39,zk q),(40,zk r),(6,.int .i64 0),(5,Sx.pt g5),(4,Sx.pt g4)] [⟨g5,24,zc r⟩,⟨g4,24,zc q⟩,⟨g2,24,zc a⟩] by
   have hS15:A [3,2,1,0] [(39,zk q),(40,zk r),(5,Sx.pt g5),(4,Sx.pt g4)] [⟨g5,24,zc r⟩,⟨g4,24,zc q⟩,⟨g2,24,zc a⟩]:=by
    refine (hA _ _ _).2 (WT.step [4] Dtt hc hT ⟨⟨_,rfl,?_⟩,trivial⟩)
    ·refine Tw ?_;exact WT.go [(6,.int .i64 0)] hA (hS31)
   have hS7:A [2,1,0] [(39,zk q),(40,zk r),(5,Sx.pt g5),(4,Sx.pt g4)] [⟨g5,24,zc r⟩,⟨g4,24,zc q⟩,⟨g2,24,zc a⟩]:=by
    refine (hA _ _ _).2 (WT.step [3] Dtt hc hT ⟨⟨_,rfl,?_⟩,trivial⟩)
    ·refine Tw ?_;exact WT.go [] hA (hS15)
   have hS3:A [1,0] [(39,zk q),(40,zk r),(5,Sx.pt g5),(4,Sx.pt g4)] [⟨g5,24,zc r⟩,⟨g4,24,zc q⟩,⟨g2,24,zc a⟩]:=by
    refine (hA _ _ _).2 (WT.step [2] Dtt hc hT ⟨⟨_,rfl,?_⟩,trivial⟩)
    ·refine Tw ?_;exact WT.go [] hA (hS7)
   have hS5:A [2,0] [(39,zk q),(5,Sx.pt g5),(4,Sx.pt g4)] [⟨g5,24,zc r⟩,⟨g4,24,zc q⟩,⟨g2,24,zc a⟩]:=by
    refine (hA _ _ _).2 (WT.step [1] Dtt hc hT ⟨⟨_,rfl,?_⟩,trivial⟩)
    ·refine Tw ?_;exact WT.go [(40,zk r)] hA (hS7)
   have hS1:A [0] [(39,zk q),(5,Sx.pt g5),(4,Sx.pt g4)] [⟨g5,24,zc r⟩,⟨g4,24,zc q⟩,⟨g2,24,zc a⟩]:=by
    refine (hA _ _ _).2 (WT.step [1,2] Dtt hc hT ⟨⟨_,rfl,?_⟩,⟨_,rfl,?_⟩,trivial⟩)
    ·refine Tw ?_;exact WT.go [(40,zk r)] hA (hS3)
    ·refine Tw ?_;exact WT.go [] hA (hS5)
   have hS2:A [1] [(40,zk r),(5,Sx.pt g5),(4,Sx.pt g4)] [⟨g5,24,zc r⟩,⟨g4,24,zc q⟩,⟨g2,24,zc a⟩]:=by
    refine (hA _ _ _).2 (WT.step [0] Dtt hc hT ⟨⟨_,rfl,?_⟩,trivial⟩)
    ·refine Tw ?_;exact WT.go [(39,zk q)] hA (hS3)
   have hS0:A [] [(5,Sx.pt g5),(4,Sx.pt g4)] [⟨g5,24,zc r⟩,⟨g4,24,zc q⟩,⟨g2,24,zc a⟩]:=by
    refine (hA _ _ _).2 (WT.step [0,1] Dtt hc hT ⟨⟨_,rfl,?_⟩,⟨_,rfl,?_⟩,trivial⟩)
    ·refine Tw ?_;exact WT.go [(39,zk q)] hA (hS1)
    ·refine Tw ?_;exact WT.go [(40,zk r)] hA (hS2)
   exact WT.less ((hA _ _ _).1 hS0) Dtt Kle.a (by repeat (first|exact Lle.nil|exact Lle.same|refine Lle.c ?_))
  refine (hA _ _ _).2 (WT.fin [0,1,2,3,4] 6 hc rfl Kr ?_);clear hc hT hA
  repeat (first|refine Tk ?_|intro _|exact Tz)
  done
 ·rw[show (((k+1:Nat):Int) - 1)=(k:Int) by omega];have hk4:k<4:=by omega
  have hL:=db a b k hk4 h0;have hlo:=yd k a;have hD:=bo (tD a b (k+1)) (wd k a) b hlo hs (jR a (k+1) h0);rw[hL.1,hL.2] at hD;have hD' : Fn Tryz.prog 184 [.int .u64 ((tD a b (k+1):Nat):Int),.int .u64 ((wd k a:Nat):Int),.int .u64 ((wd 0 b:Nat):Int)] Tr (Is (.tuple #[.int .u64 ((wd k (a / b):Nat):Int),.int .u64 ((tD a b k:Nat):Int)])):=by rw[hb0'];exact hD
  clear hD hL;have hq:over (qC (a / b) (k+1)) k [.int .u64 ((wd k (a / b):Nat):Int)]=qC (a / b) k:=by
   have:k=0∨k=1∨k=2∨k=3:=by omega
   rcases this with rfl|rfl|rfl|rfl<;>simp[over,qC,qc]
  have hg:=vq a hk4;have hs1:IntKind.i64.wrap ((k:Int) - 1)=(k:Int) - 1:=zl Om Om Om;have hle:Nat.ble (k + [Value.int .u64 ((wd k (a / b):Nat):Int)].length) (qC (a / b) (k+1)).length=true:=by rw[Nat.ble_eq];show k+1≤4;omega
  generalize tD a b (k+1)=H at *;generalize hRe:tD a b k=R at *;generalize wd k (a / b)=D at *;generalize qC (a / b) (k+1)=M at *;generalize hMe:qC (a / b) k=M2 at *
  repeat (first|refine WO.does (yP rfl rfl Om) ?_|refine Tj ?_|intro _|refine Tc ?_|exact Tz)
  refine WC.mainA [2,8,9,10,11,13,15] [(0,.int .i64 (k:Int)),(1,pt g5),(3,.int .i64 (k:Int)),(4,.pointer (some ⟨g2,k,none⟩)),(5,.int .u64 ((wd k a:Nat):Int)),(6,pt g3),(7,.int .u64 ((wd 0 b:Nat):Int)),(12,.pointer (some ⟨g4,k,none⟩)),(14,pt g5)] Dtt (fun A hA=>?_);refine WT.given [(7,.int .i64 (k:Int)),(6,.int .i64 0),(5,Sx.pt g5),(4,Sx.pt g4),(3,Sx.pt g3),(2,Sx.pt g2)] [⟨g3,24,zc b⟩,⟨g2,24,zc a⟩] Kr (Tlv.a (Tlv.a (Tlv.a (Tlv.a (Tlv.a (Tlv.a (Tlv.a (Tlv.a (Tlv.a (Tlv.nil) (h:=by refine Qux.does ?_;exact (yo (i:=0) (o':=0)))) (h:=by refine Qux.does ?_;exact (yo (i:=k) (o':=k) (ho:=by omega)))) (h:=by refine Qux.does ?_;exact zx)) (h:=by refine Qux.does ?_;exact (yo (i:=0) (o':=0)))) (h:=by refine Qux.does ?_;exact (zx (hc:=hg)))) (h:=by refine Qux.does ?_;exact (yo (i:=k) (o':=k) (ho:=by omega))))) (h:=by refine Qux.does ?_;exact (yo (i:=0) (o':=0))))) (fun hc hT=>?_)
  suffices hS44804:A [15,13,11,10,9,8,2] [(28,.int .u64 (H:Int)),(34,.tuple #[.int .u64 (D:Int),.int .u64 (R:Int)]),(25,.tuple #[.int .u64 (D:Int),.int .u64 (R:Int)]),(35,.int .u64 (D:Int)),(36,.int .u64 (R:Int)),(7,.int .i64 (k:Int)),(6,.int .i64 0),(5,Sx.pt g5),(4,Sx.pt g4),(3,Sx.pt g3),(2,Sx.pt g2)] [⟨g5,24,jp R⟩,⟨g4,24,M2⟩,⟨g3,24,zc b⟩,⟨g2,24,zc a⟩] by
   have hS12036:A [13,11,10,9,8,2] [(28,.int .u64 (H:Int)),(34,.tuple #[.int .u64 (D:Int),.int .u64 (R:Int)]),(25,.tuple #[.int .u64 (D:Int),.int .u64 (R:Int)]),(35,.int .u64 (D:Int)),(36,.int .u64 (R:Int)),(7,.int .i64 (k:Int)),(6,.int .i64 0),(5,Sx.pt g5),(4,Sx.pt g4),(3,Sx.pt g3),(2,Sx.pt g2)] [⟨g5,24,jp H⟩,⟨g4,24,M2⟩,⟨g3,24,zc b⟩,⟨g2,24,zc a⟩]:=by
    refine (hA _ _ _).2 (WT.step [15] Dtt hc hT ⟨⟨_,rfl,?_⟩,trivial⟩)
    ·refine Tw ?_;exact WT.go [] hA (hS44804)
   have hS3844:A [11,10,9,8,2] [(28,.int .u64 (H:Int)),(34,.tuple #[.int .u64 (D:Int),.int .u64 (R:Int)]),(25,.tuple #[.int .u64 (D:Int),.int .u64 (R:Int)]),(35,.int .u64 (D:Int)),(36,.int .u64 (R:Int)),(7,.int .i64 (k:Int)),(6,.int .i64 0),(5,Sx.pt g5),(4,Sx.pt g4),(3,Sx.pt g3),(2,Sx.pt g2)] [⟨g5,24,jp H⟩,⟨g4,24,M⟩,⟨g3,24,zc b⟩,⟨g2,24,zc a⟩]:=by
    refine (hA _ _ _).2 (WT.step [13] Dtt hc hT ⟨⟨_,rfl,?_⟩,trivial⟩)
    ·refine WO.stores (zo (vs:=[.int .u64 ((D:Nat):Int)]) (cs':=M2) (hc:=hq) (hle:=hle)) ?_;exact WT.go [] hA (hS12036)
   have hS9988:A [13,10,9,8,2] [(28,.int .u64 (H:Int)),(34,.tuple #[.int .u64 (D:Int),.int .u64 (R:Int)]),(25,.tuple #[.int .u64 (D:Int),.int .u64 (R:Int)]),(35,.int .u64 (D:Int)),(7,.int .i64 (k:Int)),(6,.int .i64 0),(5,Sx.pt g5),(4,Sx.pt g4),(3,Sx.pt g3),(2,Sx.pt g2)] [⟨g5,24,jp H⟩,⟨g4,24,M2⟩,⟨g3,24,zc b⟩,⟨g2,24,zc a⟩]:=by
    refine (hA _ _ _).2 (WT.step [11] Dtt hc hT ⟨⟨_,rfl,?_⟩,trivial⟩)
    ·refine Tw ?_;exact WT.go [(36,.int .u64 (R:Int))] hA (hS12036)
   have hS1796:A [10,9,8,2] [(28,.int .u64 (H:Int)),(34,.tuple #[.int .u64 (D:Int),.int .u64 (R:Int)]),(25,.tuple #[.int .u64 (D:Int),.int .u64 (R:Int)]),(35,.int .u64 (D:Int)),(7,.int .i64 (k:Int)),(6,.int .i64 0),(5,Sx.pt g5),(4,Sx.pt g4),(3,Sx.pt g3),(2,Sx.pt g2)] [⟨g5,24,jp H⟩,⟨g4,24,M⟩,⟨g3,24,zc b⟩,⟨g2,24,zc a⟩]:=by
    refine (hA _ _ _).2 (WT.step [11,13] Dtt hc hT ⟨⟨_,rfl,?_⟩,⟨_,rfl,?_⟩,trivial⟩)
    ·refine Tw ?_;exact WT.go [(36,.int .u64 (R:Int))] hA (hS3844)
    ·refine WO.stores (zo (vs:=[.int .u64 ((D:Nat):Int)]) (cs':=M2) (hc:=hq) (hle:=hle)) ?_;exact WT.go [] hA (hS9988)
   have hS2820:A [11,9,8,2] [(28,.int .u64 (H:Int)),(34,.tuple #[.int .u64 (D:Int),.int .u64 (R:Int)]),(25,.tuple #[.int .u64 (D:Int),.int .u64 (R:Int)]),(36,.int .u64 (R:Int)),(7,.int .i64 (k:Int)),(6,.int .i64 0),(5,Sx.pt g5),(4,Sx.pt g4),(3,Sx.pt g3),(2,Sx.pt g2)] [⟨g5,24,jp H⟩,⟨g4,24,M⟩,⟨g3,24,zc b⟩,⟨g2,24,zc a⟩]:=by
    refine (hA _ _ _).2 (WT.step [10] Dtt hc hT ⟨⟨_,rfl,?_⟩,trivial⟩)
    ·refine Tw ?_;exact WT.go [(35,.int .u64 (D:Int))] hA (hS3844)
   have hS772:A [9,8,2] [(28,.int .u64 (H:Int)),(34,.tuple #[.int .u64 (D:Int),.int .u64 (R:Int)]),(25,.tuple #[.int .u64 (D:Int),.int .u64 (R:Int)]),(7,.int .i64 (k:Int)),(6,.int .i64 0),(5,Sx.pt g5),(4,Sx.pt g4),(3,Sx.pt g3),(2,Sx.pt g2)] [⟨g5,24,jp H⟩,⟨g4,24,M⟩,⟨g3,24,zc b⟩,⟨g2,24,zc a⟩]:=by
    refine (hA _ _ _).2 (WT.step [10,11] Dtt hc hT ⟨⟨_,rfl,?_⟩,⟨_,rfl,?_⟩,trivial⟩)
    ·refine Tw ?_;exact WT.go [(35,.int .u64 (D:Int))] hA (hS1796)
    ·refine Tw ?_;exact WT.go [(36,.int .u64 (R:Int))] hA (hS2820)
   have hS260:A [8,2] [(28,.int .u64 (H:Int)),(34,.tuple #[.int .u64 (D:Int),.int .u64 (R:Int)]),(7,.int .i64 (k:Int)),(6,.int .i64 0),(5,Sx.pt g5),(4,Sx.pt g4),(3,Sx.pt g3),(2,Sx.pt g2)] [⟨g5,24,jp H⟩,⟨g4,24,M⟩,⟨g3,24,zc b⟩,⟨g2,24,zc a⟩]:=by
    refine (hA _ _ _).2 (WT.step [9] Dtt hc hT ⟨⟨_,rfl,?_⟩,trivial⟩)
    ·refine Tw ?_;exact WT.go [(25,.tuple #[.int .u64 (D:Int),.int .u64 (R:Int)])] hA (hS772)
   have hS4:A [2] [(28,.int .u64 (H:Int)),(7,.int .i64 (k:Int)),(6,.int .i64 0),(5,Sx.pt g5),(4,Sx.pt g4),(3,Sx.pt g3),(2,Sx.pt g2)] [⟨g5,24,jp H⟩,⟨g4,24,M⟩,⟨g3,24,zc b⟩,⟨g2,24,zc a⟩]:=by
    refine (hA _ _ _).2 (WT.step [8] Dtt hc hT ⟨⟨_,rfl,?_⟩,trivial⟩)
    ·refine WO.acall (hc:=hD') (k:=?_);exact WT.go [(34,.tuple #[.int .u64 (D:Int),.int .u64 (R:Int)])] hA (hS260)
   have hS0:A [] [(7,.int .i64 (k:Int)),(6,.int .i64 0),(5,Sx.pt g5),(4,Sx.pt g4),(3,Sx.pt g3),(2,Sx.pt g2)] [⟨g5,24,jp H⟩,⟨g4,24,M⟩,⟨g3,24,zc b⟩,⟨g2,24,zc a⟩]:=by
    refine (hA _ _ _).2 (WT.step [2] Dtt hc hT ⟨⟨_,rfl,?_⟩,trivial⟩)
    ·refine Tw ?_;exact WT.go [(28,.int .u64 (H:Int))] hA (hS4)
   exact WT.less ((hA _ _ _).1 hS0) Dtt Kle.a (by repeat (first|exact Lle.nil|exact Lle.same|refine Lle.c ?_))
  refine (hA _ _ _).2 (WT.fin [2,8,9,10,11,13,15] 6 hc rfl Kr ?_);clear hc hT hA
  repeat (first|refine WO.does (zG rfl rfl hs1) ?_|refine Tj ?_|intro _|refine Tc ?_|exact Tz)
  subst hRe hMe;exact WX.metI k (hs:=⟨by omega,by omega⟩)
theorem eK (D m:Nat) (h:m<256):over (zc (vg D (m+1))) (m / 64) [.int .u64 ((wd (m / 64) (vg D m):Nat):Int)]=zc (vg D m):=by
 have:m / 64=0∨m / 64=1∨m / 64=2∨m / 64=3:=by omega
 have ho:=fun j (h1:j<4) (h2:j≠m / 64)=>iN D m h1 h2
 rcases this with e|e|e|e<;>rw[e] at ho ⊢<;>simp[over,zc,ho]
theorem agv (a b:Nat) (ha:a<ze) (hbB:b<ze) (h0:0<b) (hs:¬ b<18446744073709551616):Fn Tryz.prog 215 [zk a,zk b] Tr (Is (.tuple #[zk (a / b),zk (a%b),.int .i64 0])):=by
 have hsh:uT b=false:=by simp[uT,hs]
 have hS:=kQ b hbB;rw[hsh] at hS;have hb0:¬ b=0:=by omega
 have hN:zJ a≤256:=vd (by simpa [ze] using ha);have hlt:=tI a;have hBits:=jG a ha;generalize zJ a=N at *;refine Fn.enter Tryz.func215 rfl rfl rfl ?_;intro w hw
 repeat (first|refine Tk ?_|intro _|exact Tz)
 refine WC.dF rfl hb0 ?_
 repeat (first|refine Tj ?_|intro _|refine WO.acall (hc:=hS) (k:=?_)|refine WO.acall (hc:=hBits) (k:=?_)|refine Tc ?_|exact Tz)
 rename_i g2 g3 g4 g5;refine WC.loopI (σ:=Nat) (fun m=>m≤N) (fun m=>[(44,.int .i64 ((N - m:Nat):Int)),(43,.int .i64 (N:Int)),(8,.int .i64 (N:Int)),(6,.int .i64 0),(5,Sx.pt g5),(4,Sx.pt g4),(3,Sx.pt g3),(2,Sx.pt g2)]) (fun m=>[⟨g5,24,zc (a / 2 ^ m%b)⟩,⟨g4,24,zc (vg (a / b) m)⟩,⟨g3,24,zc b⟩,⟨g2,24,zc a⟩]) (fun m=>m) N (fun m hm=>?_) (Nat.le_refl _) (by rw[Nat.sub_self];repeat (first|exact Kle.nil|refine Kle.cons rfl rfl ?_)) (by rw[eE (Nat.lt_of_le_of_lt (Nat.div_le_self _ _) hlt),Nat.div_eq_of_lt hlt,Nat.zero_mod];repeat (first|exact Lle.nil|refine Lle.c ?_))
 try dsimp only at hm ⊢
 rcases m with _|m
 ·rw[tZ,Nat.pow_zero,Nat.div_one,Nat.sub_zero];generalize a / b=q at *;generalize a%b=r at *
  repeat (first|refine Tk ?_|intro _|exact Tz)
  refine WC.dF rfl Om ?_
  repeat (first|refine Tk ?_|intro _|exact Tz)
  refine WC.mainA [0,1,2,3,4] [] Dtt (fun A hA=>?_);refine WT.given [(5,Sx.pt g5),(4,Sx.pt g4)] [⟨g2,24,zc a⟩] Kr (Tlv.nil) (fun hc hT=>?_)
  suffices hS31:A [4,3,2,1,0] [(71,zk q),(72,zk r),(6,.int .i64 0),(5,Sx.pt g5),(4,Sx.pt g4)] [⟨g5,24,zc r⟩,⟨g4,24,zc q⟩,⟨g2,24,zc a⟩] by
   have hS15:A [3,2,1,0] [(71,zk q),(72,zk r),(5,Sx.pt g5),(4,Sx.pt g4)] [⟨g5,24,zc r⟩,⟨g4,24,zc q⟩,⟨g2,24,zc a⟩]:=by
    refine (hA _ _ _).2 (WT.step [4] Dtt hc hT ⟨⟨_,rfl,?_⟩,trivial⟩)
    ·refine Tw ?_;exact WT.go [(6,.int .i64 0)] hA (hS31)
   have hS7:A [2,1,0] [(71,zk q),(72,zk r),(5,Sx.pt g5),(4,Sx.pt g4)] [⟨g5,24,zc r⟩,⟨g4,24,zc q⟩,⟨g2,24,zc a⟩]:=by
    refine (hA _ _ _).2 (WT.step [3] Dtt hc hT ⟨⟨_,rfl,?_⟩,trivial⟩)
    ·refine Tw ?_;exact WT.go [] hA (hS15)
   have hS3:A [1,0] [(71,zk q),(72,zk r),(5,Sx.pt g5),(4,Sx.pt g4)] [⟨g5,24,zc r⟩,⟨g4,24,zc q⟩,⟨g2,24,zc a⟩]:=by
    refine (hA _ _ _).2 (WT.step [2] Dtt hc hT ⟨⟨_,rfl,?_⟩,trivial⟩)
    ·refine Tw ?_;exact WT.go [] hA (hS7)
   have hS5:A [2,0] [(71,zk q),(5,Sx.pt g5),(4,Sx.pt g4)] [⟨g5,24,zc r⟩,⟨g4,24,zc q⟩,⟨g2,24,zc a⟩]:=by
    refine (hA _ _ _).2 (WT.step [1] Dtt hc hT ⟨⟨_,rfl,?_⟩,trivial⟩)
    ·refine Tw ?_;exact WT.go [(72,zk r)] hA (hS7)
   have hS1:A [0] [(71,zk q),(5,Sx.pt g5),(4,Sx.pt g4)] [⟨g5,24,zc r⟩,⟨g4,24,zc q⟩,⟨g2,24,zc a⟩]:=by
    refine (hA _ _ _).2 (WT.step [1,2] Dtt hc hT ⟨⟨_,rfl,?_⟩,⟨_,rfl,?_⟩,trivial⟩)
    ·refine Tw ?_;exact WT.go [(72,zk r)] hA (hS3)
    ·refine Tw ?_;exact WT.go [] hA (hS5)
   have hS2:A [1] [(72,zk r),(5,Sx.pt g5),(4,Sx.pt g4)] [⟨g5,24,zc r⟩,⟨g4,24,zc q⟩,⟨g2,24,zc a⟩]:=by
    refine (hA _ _ _).2 (WT.step [0] Dtt hc hT ⟨⟨_,rfl,?_⟩,trivial⟩)
    ·refine Tw ?_;exact WT.go [(71,zk q)] hA (hS3)
   have hS0:A [] [(5,Sx.pt g5),(4,Sx.pt g4)] [⟨g5,24,zc r⟩,⟨g4,24,zc q⟩,⟨g2,24,zc a⟩]:=by
    refine (hA _ _ _).2 (WT.step [0,1] Dtt hc hT ⟨⟨_,rfl,?_⟩,⟨_,rfl,?_⟩,trivial⟩)
    ·refine Tw ?_;exact WT.go [(71,zk q)] hA (hS1)
    ·refine Tw ?_;exact WT.go [(72,zk r)] hA (hS2)
   exact WT.less ((hA _ _ _).1 hS0) Dtt Kle.a (by repeat (first|exact Lle.nil|exact Lle.same|refine Lle.c ?_))
  refine (hA _ _ _).2 (WT.fin [0,1,2,3,4] 6 hc rfl Kr ?_);clear hc hT hA
  repeat (first|refine Tk ?_|intro _|exact Tz)
  done
 ·have hm2:m<256:=by omega
  have hB:=aei a m ha Om;have hX:=acf (a / 2 ^ (m+1)%b) (vZ a m) b (Nat.mod_lt _ h0) hbB (rT a m);unfold bL ay at hX;rw[(j4 (a:=a) m h0).1,(j4 (a:=a) m h0).2] at hX;have hq1:=rT (a / b) m;have hor:=eB (a / b) m hm2;have hset:=eK (a / b) m hm2;have hg:=vq (vg (a / b) (m+1)) (k:=m / 64) Om;have hwl:=yd (m / 64) (vg (a / b) (m+1));have h63:vZ (a / b) m*2 ^ (m%64)<18446744073709551616:=by
   have:2 ^ (m%64)≤2 ^ 63:=Nat.pow_le_pow_right Om Om;have h3:vZ (a / b) m*2 ^ (m%64)≤1*2 ^ (m%64):=Nat.mul_le_mul_right _ hq1;have h4:(2:Nat) ^ 63=9223372036854775808:=by decide
   omega
  have hov:=u64_or_nat _ _ hwl h63;rw[hor] at hov;have hsl:IntKind.u64.wrap (((vZ (a / b) m:Nat):Int)*2 ^ (min ((m%64:Nat):Int).toNat IntKind.u64.bits))=((vZ (a / b) m*2 ^ (m%64):Nat):Int):=by
   rw[Int.toNat_natCast,Nat.min_eq_left (show m%64≤IntKind.u64.bits by show m%64≤64;omega),show (((vZ (a / b) m:Nat):Int)*2 ^ (m%64))=((vZ (a / b) m*2 ^ (m%64):Nat):Int) by simp,jE h63]
  generalize vZ a m=B at *;generalize vZ (a / b) m=Q at *;generalize a / 2 ^ (m+1)%b=r0 at *;generalize hr1:a / 2 ^ m%b=r1 at *;have hle:Nat.ble (m / 64 + [Value.int .u64 ((wd (m / 64) (vg (a / b) m):Nat):Int)].length) (zc (vg (a / b) (m+1))).length=true:=by rw[Nat.ble_eq];show m / 64+1≤4;omega
  generalize wd (m / 64) (vg (a / b) (m+1))=X at *;generalize zc (vg (a / b) (m+1))=T0 at *;generalize hY:wd (m / 64) (vg (a / b) m)=Y at *;generalize hT1:zc (vg (a / b) m)=T1 at *;have hs1:IntKind.i64.wrap ((N:Int) - 1)=((N - 1:Nat):Int):=zl Om Om Om;have hs2:IntKind.i64.wrap (((N - 1:Nat):Int) - ((N - (m+1):Nat):Int))=((m:Nat):Int):=zl Om Om Om;have hs3:IntKind.i64.wrap (((N - (m+1):Nat):Int)+1)=((N - m:Nat):Int):=zl Om Om Om;have hqt:IntKind.i64.wrap ((m:Int).tdiv 64)=((m / 64:Nat):Int):=by
   rw[show ((m:Int).tdiv 64)=((m / 64:Nat):Int) from rfl];exact zl Om Om Om
  repeat (first|refine Tk ?_|intro _|exact Tz)
  refine WC.dT rfl Om ?_
  repeat (first|refine WO.does (zG rfl rfl hs1) ?_|refine WO.does (zG rfl rfl hs2) ?_|refine Tj ?_|intro _|refine Tc ?_|exact Tz)
  refine WC.mainA [0,5,6,7,8,9,10] [(1,zk a),(2,.int .i64 (m:Int)),(3,.int .u64 (B:Int)),(4,zk b)] Dtt (fun A hA=>?_);refine WT.given [(10,.int .i64 (m:Int)),(44,.int .i64 ((N - (m+1):Nat):Int)),(43,.int .i64 (N:Int)),(8,.int .i64 (N:Int)),(6,.int .i64 0),(5,Sx.pt g5),(4,Sx.pt g4),(3,Sx.pt g3),(2,Sx.pt g2)] [⟨g3,24,zc b⟩,⟨g2,24,zc a⟩] Kr (Tlv.a (Tlv.a (Tlv.call hB (fun _ _=>trivial) (Tlv.a (Tlv.nil) (h:=by refine Qux.does ?_;exact (zw (vs:=zc b)))))) (h:=by refine Qux.does ?_;exact (zw (vs:=zc a)))) (fun hc hT=>?_)
  suffices hS2017:A [10,9,8,7,6,5,0] [(52,zk r0),(57,.tuple #[zk r1,.int .u64 (Q:Int)]),(51,.tuple #[zk r1,.int .u64 (Q:Int)]),(58,zk r1),(59,.int .u64 (Q:Int)),(11,.int .u64 (Q:Int)),(10,.int .i64 (m:Int)),(44,.int .i64 ((N - (m+1):Nat):Int)),(43,.int .i64 (N:Int)),(8,.int .i64 (N:Int)),(6,.int .i64 0),(5,Sx.pt g5),(4,Sx.pt g4),(3,Sx.pt g3),(2,Sx.pt g2)] [⟨g5,24,zc r1⟩,⟨g4,24,T0⟩,⟨g3,24,zc b⟩,⟨g2,24,zc a⟩] by
   have hS993:A [9,8,7,6,5,0] [(52,zk r0),(57,.tuple #[zk r1,.int .u64 (Q:Int)]),(51,.tuple #[zk r1,.int .u64 (Q:Int)]),(58,zk r1),(59,.int .u64 (Q:Int)),(10,.int .i64 (m:Int)),(44,.int .i64 ((N - (m+1):Nat):Int)),(43,.int .i64 (N:Int)),(8,.int .i64 (N:Int)),(6,.int .i64 0),(5,Sx.pt g5),(4,Sx.pt g4),(3,Sx.pt g3),(2,Sx.pt g2)] [⟨g5,24,zc r1⟩,⟨g4,24,T0⟩,⟨g3,24,zc b⟩,⟨g2,24,zc a⟩]:=by
    refine (hA _ _ _).2 (WT.step [10] Dtt hc hT ⟨⟨_,rfl,?_⟩,trivial⟩)
    ·refine Tw ?_;exact WT.go [(11,.int .u64 (Q:Int))] hA (hS2017)
   have hS481:A [8,7,6,5,0] [(52,zk r0),(57,.tuple #[zk r1,.int .u64 (Q:Int)]),(51,.tuple #[zk r1,.int .u64 (Q:Int)]),(58,zk r1),(59,.int .u64 (Q:Int)),(10,.int .i64 (m:Int)),(44,.int .i64 ((N - (m+1):Nat):Int)),(43,.int .i64 (N:Int)),(8,.int .i64 (N:Int)),(6,.int .i64 0),(5,Sx.pt g5),(4,Sx.pt g4),(3,Sx.pt g3),(2,Sx.pt g2)] [⟨g5,24,zc r0⟩,⟨g4,24,T0⟩,⟨g3,24,zc b⟩,⟨g2,24,zc a⟩]:=by
    refine (hA _ _ _).2 (WT.step [9] Dtt hc hT ⟨⟨_,rfl,?_⟩,trivial⟩)
    ·refine Tw ?_;exact WT.go [] hA (hS993)
   have hS737:A [9,7,6,5,0] [(52,zk r0),(57,.tuple #[zk r1,.int .u64 (Q:Int)]),(51,.tuple #[zk r1,.int .u64 (Q:Int)]),(58,zk r1),(10,.int .i64 (m:Int)),(44,.int .i64 ((N - (m+1):Nat):Int)),(43,.int .i64 (N:Int)),(8,.int .i64 (N:Int)),(6,.int .i64 0),(5,Sx.pt g5),(4,Sx.pt g4),(3,Sx.pt g3),(2,Sx.pt g2)] [⟨g5,24,zc r1⟩,⟨g4,24,T0⟩,⟨g3,24,zc b⟩,⟨g2,24,zc a⟩]:=by
    refine (hA _ _ _).2 (WT.step [8] Dtt hc hT ⟨⟨_,rfl,?_⟩,trivial⟩)
    ·refine Tw ?_;exact WT.go [(59,.int .u64 (Q:Int))] hA (hS993)
   have hS225:A [7,6,5,0] [(52,zk r0),(57,.tuple #[zk r1,.int .u64 (Q:Int)]),(51,.tuple #[zk r1,.int .u64 (Q:Int)]),(58,zk r1),(10,.int .i64 (m:Int)),(44,.int .i64 ((N - (m+1):Nat):Int)),(43,.int .i64 (N:Int)),(8,.int .i64 (N:Int)),(6,.int .i64 0),(5,Sx.pt g5),(4,Sx.pt g4),(3,Sx.pt g3),(2,Sx.pt g2)] [⟨g5,24,zc r0⟩,⟨g4,24,T0⟩,⟨g3,24,zc b⟩,⟨g2,24,zc a⟩]:=by
    refine (hA _ _ _).2 (WT.step [8,9] Dtt hc hT ⟨⟨_,rfl,?_⟩,⟨_,rfl,?_⟩,trivial⟩)
    ·refine Tw ?_;exact WT.go [(59,.int .u64 (Q:Int))] hA (hS481)
    ·refine Tw ?_;exact WT.go [] hA (hS737)
   have hS353:A [8,6,5,0] [(52,zk r0),(57,.tuple #[zk r1,.int .u64 (Q:Int)]),(51,.tuple #[zk r1,.int .u64 (Q:Int)]),(59,.int .u64 (Q:Int)),(10,.int .i64 (m:Int)),(44,.int .i64 ((N - (m+1):Nat):Int)),(43,.int .i64 (N:Int)),(8,.int .i64 (N:Int)),(6,.int .i64 0),(5,Sx.pt g5),(4,Sx.pt g4),(3,Sx.pt g3),(2,Sx.pt g2)] [⟨g5,24,zc r0⟩,⟨g4,24,T0⟩,⟨g3,24,zc b⟩,⟨g2,24,zc a⟩]:=by
    refine (hA _ _ _).2 (WT.step [7] Dtt hc hT ⟨⟨_,rfl,?_⟩,trivial⟩)
    ·refine Tw ?_;exact WT.go [(58,zk r1)] hA (hS481)
   have hS97:A [6,5,0] [(52,zk r0),(57,.tuple #[zk r1,.int .u64 (Q:Int)]),(51,.tuple #[zk r1,.int .u64 (Q:Int)]),(10,.int .i64 (m:Int)),(44,.int .i64 ((N - (m+1):Nat):Int)),(43,.int .i64 (N:Int)),(8,.int .i64 (N:Int)),(6,.int .i64 0),(5,Sx.pt g5),(4,Sx.pt g4),(3,Sx.pt g3),(2,Sx.pt g2)] [⟨g5,24,zc r0⟩,⟨g4,24,T0⟩,⟨g3,24,zc b⟩,⟨g2,24,zc a⟩]:=by
    refine (hA _ _ _).2 (WT.step [7,8] Dtt hc hT ⟨⟨_,rfl,?_⟩,⟨_,rfl,?_⟩,trivial⟩)
    ·refine Tw ?_;exact WT.go [(58,zk r1)] hA (hS225)
    ·refine Tw ?_;exact WT.go [(59,.int .u64 (Q:Int))] hA (hS353)
   have hS33:A [5,0] [(52,zk r0),(57,.tuple #[zk r1,.int .u64 (Q:Int)]),(10,.int .i64 (m:Int)),(44,.int .i64 ((N - (m+1):Nat):Int)),(43,.int .i64 (N:Int)),(8,.int .i64 (N:Int)),(6,.int .i64 0),(5,Sx.pt g5),(4,Sx.pt g4),(3,Sx.pt g3),(2,Sx.pt g2)] [⟨g5,24,zc r0⟩,⟨g4,24,T0⟩,⟨g3,24,zc b⟩,⟨g2,24,zc a⟩]:=by
    refine (hA _ _ _).2 (WT.step [6] Dtt hc hT ⟨⟨_,rfl,?_⟩,trivial⟩)
    ·refine Tw ?_;exact WT.go [(51,.tuple #[zk r1,.int .u64 (Q:Int)])] hA (hS97)
   have hS1:A [0] [(52,zk r0),(10,.int .i64 (m:Int)),(44,.int .i64 ((N - (m+1):Nat):Int)),(43,.int .i64 (N:Int)),(8,.int .i64 (N:Int)),(6,.int .i64 0),(5,Sx.pt g5),(4,Sx.pt g4),(3,Sx.pt g3),(2,Sx.pt g2)] [⟨g5,24,zc r0⟩,⟨g4,24,T0⟩,⟨g3,24,zc b⟩,⟨g2,24,zc a⟩]:=by
    refine (hA _ _ _).2 (WT.step [5] Dtt hc hT ⟨⟨_,rfl,?_⟩,trivial⟩)
    ·refine WO.acall (hc:=hX) (k:=?_);exact WT.go [(57,.tuple #[zk r1,.int .u64 (Q:Int)])] hA (hS33)
   have hS0:A [] [(10,.int .i64 (m:Int)),(44,.int .i64 ((N - (m+1):Nat):Int)),(43,.int .i64 (N:Int)),(8,.int .i64 (N:Int)),(6,.int .i64 0),(5,Sx.pt g5),(4,Sx.pt g4),(3,Sx.pt g3),(2,Sx.pt g2)] [⟨g5,24,zc r0⟩,⟨g4,24,T0⟩,⟨g3,24,zc b⟩,⟨g2,24,zc a⟩]:=by
    refine (hA _ _ _).2 (WT.step [0] Dtt hc hT ⟨⟨_,rfl,?_⟩,trivial⟩)
    ·refine Tw ?_;exact WT.go [(52,zk r0)] hA (hS1)
   exact WT.less ((hA _ _ _).1 hS0) Dtt Kle.a (by repeat (first|exact Lle.nil|exact Lle.same|refine Lle.c ?_))
  refine (hA _ _ _).2 (WT.fin [0,5,6,7,8,9,10] 6 hc rfl Kr ?_);clear hc hT hA
  repeat (first|refine Tk ?_|intro _|exact Tz)
  refine WC.mainA [3,8,10] [(0,.int .i64 (m:Int)),(1,.int .i64 ((m / 64:Nat):Int)),(2,.pointer (some ⟨g4,m / 64,none⟩)),(4,.int .u64 (Q:Int)),(5,.int .i64 (m:Int)),(6,.int .i64 ((m%64:Nat):Int)),(7,.int .u64 ((Q*2 ^ (m%64):Nat):Int)),(9,.pointer (some ⟨g4,m / 64,none⟩))] Dtt (fun A hA=>?_);refine WT.given [(11,.int .u64 (Q:Int)),(10,.int .i64 (m:Int)),(44,.int .i64 ((N - (m+1):Nat):Int)),(43,.int .i64 (N:Int)),(8,.int .i64 (N:Int)),(6,.int .i64 0),(5,Sx.pt g5),(4,Sx.pt g4),(3,Sx.pt g3),(2,Sx.pt g2)] [⟨g3,24,zc b⟩,⟨g2,24,zc a⟩] Kr (Tlv.a (Tlv.a (Tlv.a (Tlv.a (Tlv.a (Tlv.a (Tlv.a (Tlv.a (Tlv.nil) (h:=by refine Qux.does ?_;exact (yo (i:=m / 64) (o':=m / 64) (ho:=by omega)))) (h:=by refine Qux.does ?_;exact (sW rfl rfl Om hsl))) (h:=by refine Qux.does ?_;exact (yK rfl rfl Dtt rfl))))) (h:=by refine Qux.does ?_;exact (yo (i:=m / 64) (o':=m / 64) (ho:=by omega)))) (h:=by refine Qux.does ?_;exact (ud rfl rfl Dtt hqt)))) (fun hc hT=>?_)
  suffices hS1288:A [10,8,3] [(63,.int .u64 (X:Int)),(68,.int .u64 (Y:Int)),(11,.int .u64 (Q:Int)),(10,.int .i64 (m:Int)),(44,.int .i64 ((N - (m+1):Nat):Int)),(43,.int .i64 (N:Int)),(8,.int .i64 (N:Int)),(6,.int .i64 0),(5,Sx.pt g5),(4,Sx.pt g4),(3,Sx.pt g3),(2,Sx.pt g2)] [⟨g5,24,zc r1⟩,⟨g4,24,T1⟩,⟨g3,24,zc b⟩,⟨g2,24,zc a⟩] by
   have hS264:A [8,3] [(63,.int .u64 (X:Int)),(68,.int .u64 (Y:Int)),(11,.int .u64 (Q:Int)),(10,.int .i64 (m:Int)),(44,.int .i64 ((N - (m+1):Nat):Int)),(43,.int .i64 (N:Int)),(8,.int .i64 (N:Int)),(6,.int .i64 0),(5,Sx.pt g5),(4,Sx.pt g4),(3,Sx.pt g3),(2,Sx.pt g2)] [⟨g5,24,zc r1⟩,⟨g4,24,T0⟩,⟨g3,24,zc b⟩,⟨g2,24,zc a⟩]:=by
    refine (hA _ _ _).2 (WT.step [10] Dtt hc hT ⟨⟨_,rfl,?_⟩,trivial⟩)
    ·refine WO.stores (zo (vs:=[.int .u64 ((Y:Nat):Int)]) (cs':=T1) (hc:=hset) (hle:=hle)) ?_;exact WT.go [] hA (hS1288)
   have hS8:A [3] [(63,.int .u64 (X:Int)),(11,.int .u64 (Q:Int)),(10,.int .i64 (m:Int)),(44,.int .i64 ((N - (m+1):Nat):Int)),(43,.int .i64 (N:Int)),(8,.int .i64 (N:Int)),(6,.int .i64 0),(5,Sx.pt g5),(4,Sx.pt g4),(3,Sx.pt g3),(2,Sx.pt g2)] [⟨g5,24,zc r1⟩,⟨g4,24,T0⟩,⟨g3,24,zc b⟩,⟨g2,24,zc a⟩]:=by
    refine (hA _ _ _).2 (WT.step [8] Dtt hc hT ⟨⟨_,rfl,?_⟩,trivial⟩)
    ·refine WO.does (uK rfl rfl hov) ?_;exact WT.go [(68,.int .u64 (Y:Int))] hA (hS264)
   have hS0:A [] [(11,.int .u64 (Q:Int)),(10,.int .i64 (m:Int)),(44,.int .i64 ((N - (m+1):Nat):Int)),(43,.int .i64 (N:Int)),(8,.int .i64 (N:Int)),(6,.int .i64 0),(5,Sx.pt g5),(4,Sx.pt g4),(3,Sx.pt g3),(2,Sx.pt g2)] [⟨g5,24,zc r1⟩,⟨g4,24,T0⟩,⟨g3,24,zc b⟩,⟨g2,24,zc a⟩]:=by
    refine (hA _ _ _).2 (WT.step [3] Dtt hc hT ⟨⟨_,rfl,?_⟩,trivial⟩)
    ·refine WO.does (zx (hc:=hg)) ?_;exact WT.go [(63,.int .u64 (X:Int))] hA (hS8)
   exact WT.less ((hA _ _ _).1 hS0) Dtt Kle.a (by repeat (first|exact Lle.nil|exact Lle.same|refine Lle.c ?_))
  refine (hA _ _ _).2 (WT.fin [3,8,10] 6 hc rfl Kr ?_);clear hc hT hA
  repeat (first|refine WO.does (zi rfl rfl hs3) ?_|refine Tj ?_|intro _|refine Tc ?_|exact Tz)
  subst hr1 hT1;exact WX.metI m (hs:=⟨by omega,by omega⟩)
theorem afN (a b:Nat) (ha:a<ze) (hb:b<ze) (h0:0<b):Fn Tryz.prog 215 [zk a,zk b] Tr (Is (.tuple #[zk (a / b),zk (a%b),.int .i64 0])):=by
 by_cases hs:b<18446744073709551616
 ·exact agn a b ha h0 hs
 ·exact agv a b ha hb h0 hs
end Sx
end
section
open Go Go.RowKit Go.BigFrame
namespace Sx
section
variable {w0:World} {gs:LN} {K:List (Nat × Value)} {L:List Ent}
theorem aes {x y:Operand} {ty:TypeId} {hi lo i:Nat} (h:i<2) (hx:ev K x=some (lw hi lo):=by rfl) (hy:ev K y=some (.int .i64 (i:Int)):=by rfl) :
  Does Tryz.prog w0 gs K L (.index 332 x y) ty (zk (nJ hi lo i)):=by
 intro ac w hk _ o ho _;have:=ov hi lo h w;simp only[execOp,ho,hk.eval hx,hk.eval hy,Sem.run_bind,this,Result.andThen_ok,Sem.run_pure]
end
attribute [local irreducible] wd DQ WO WC WX
set_option maxRecDepth 20000 in
theorem acX (lo hi m:Nat) (hlo:lo<ze) (hhi:hi<ze) (hmB:m<ze) (h0:0<m) (hs:¬ m<18446744073709551616) :
  Fn Tryz.prog 186 [zk lo,zk hi,zk m] Tr (Is (.tuple #[zk ((hi*ze+lo)%m),.int .i64 0])):=by
 have hsh:uT m=false:=by simp[uT,hs]
 have hS:=kQ m hmB;rw[hsh] at hS;have hb0:¬ m=0:=by omega
 have hst:ab0 hi lo m 2=(hi*ze+lo)%m:=by
  simp only[ab0,nJ,if_true,Nat.zero_mul,Nat.zero_add,Nat.one_ne_zero,if_false];rw[Nat.add_mod,Nat.mul_mod,Nat.mod_mod,← Nat.mul_mod,← Nat.add_mod]
 rw[← hst];clear hst;refine Fn.enter Tryz.func186 rfl rfl rfl ?_;intro w hw
 repeat (first|refine Tk ?_|intro _|exact Tz)
 refine WC.dF rfl hb0 ?_
 repeat (first|refine Tj ?_|intro _|refine WO.acall (hc:=hS) (k:=?_)|refine Tc ?_|exact Tz)
 rename_i g3 g4 g5 g6;refine WC.loopI (σ:=Nat) (fun n=>n≤2) (fun n=>[(44,.int .i64 (n:Int)),(43,lw hi lo),(7,.int .i64 0),(6,Sx.pt g6),(5,Sx.pt g5)]) (fun n=>[⟨g6,24,zc (ab0 hi lo m n)⟩,⟨g5,24,zc m⟩]) (fun n=>2 - n) 0 (fun n hn=>?_) (Nat.zero_le _)
 try dsimp only at hn ⊢
 by_cases hlt:n<2
 ·have hpk:=aa8 n hhi hlo;have hst:=adb n (hi:=hi) (lo:=lo) h0;have hnx:(ab0 hi lo m n*ze+nJ hi lo n)%m=ab0 hi lo m (n+1):=rfl
  repeat (first|refine Tk ?_|intro _|exact Tz)
  refine WC.dT rfl Om ?_
  repeat (first|refine WO.does (aes hlt) ?_|refine Tj ?_|intro _|refine Tc ?_|exact Tz)
  rename_i gP;have hn1:IntKind.i64.wrap ((n:Int)+1)=((n+1:Nat):Int):=zl Om Om Om;generalize nJ hi lo n=a at *;generalize hr0:ab0 hi lo m n=r0 at *;refine WC.loopI (σ:=Nat) (fun j=>j≤256) (fun j=>[(47,.int .i64 (j:Int)),(12,Sx.pt gP),(44,.int .i64 (n:Int)),(43,lw hi lo),(7,.int .i64 0),(6,Sx.pt g6),(5,Sx.pt g5)]) (fun j=>[⟨gP,24,zc a⟩,⟨g6,24,zc ((r0*2 ^ j+a / 2 ^ (256 - j))%m)⟩,⟨g5,24,zc m⟩]) (fun j=>256 - j) 0 (fun j hj=>?_) (Nat.zero_le _) Kle.a (by rw[iW r0 a m hpk hst];repeat (first|exact Lle.nil|refine Lle.c ?_))
  try dsimp only at hj ⊢
  by_cases hjt:j<256
  ·have hB:=aei a (255 - j) hpk Om;have hX:=acf ((r0*2 ^ j+a / 2 ^ (256 - j))%m) (vZ a (255 - j)) m (Nat.mod_lt _ h0) hmB (rT a (255 - j));rw[dS hjt] at hX;have hs1:IntKind.i64.wrap (255 - (j:Int))=((255 - j:Nat):Int):=zl Om Om Om;have hj1:IntKind.i64.wrap ((j:Int)+1)=((j+1:Nat):Int):=zl Om Om Om;generalize ay _ _ _=Q at *;generalize vZ a (255 - j)=B at *;generalize (r0*2 ^ j+a / 2 ^ (256 - j))%m=r1 at *;generalize hR:(r0*2 ^ (j+1)+a / 2 ^ (256 - (j+1)))%m=r2 at *
   repeat (first|refine Tk ?_|intro _|exact Tz)
   refine WC.dT rfl Om ?_
   repeat (first|refine Tk ?_|intro _|exact Tz)
   refine WC.mainA [0,6,7,8,9,10] [(1,zk a),(2,.int .i64 (j:Int)),(3,.int .i64 ((255 - j:Nat):Int)),(4,.int .u64 (B:Int)),(5,zk m)] Dtt (fun A hA=>?_);refine WT.given [(13,.int .i64 (j:Int)),(47,.int .i64 (j:Int)),(12,Sx.pt gP),(44,.int .i64 (n:Int)),(43,lw hi lo),(7,.int .i64 0),(6,Sx.pt g6),(5,Sx.pt g5)] [⟨gP,24,zc a⟩,⟨g5,24,zc m⟩] Kr (Tlv.a (Tlv.a (Tlv.a (Tlv.call hB (fun _ _=>trivial) (Tlv.a (Tlv.nil) (h:=by refine Qux.does ?_;exact (zw (vs:=zc m))))) (h:=by refine Qux.does ?_;exact (zG rfl rfl hs1)))) (h:=by refine Qux.does ?_;exact (zw (vs:=zc a)))) (fun hc hT=>?_)
   suffices hS1985:A [10,9,8,7,6,0] [(51,zk r1),(57,.tuple #[zk r2,.int .u64 (Q:Int)]),(50,.tuple #[zk r2,.int .u64 (Q:Int)]),(58,zk r2),(59,.int .u64 (Q:Int)),(13,.int .i64 (j:Int)),(47,.int .i64 (j:Int)),(12,Sx.pt gP),(44,.int .i64 (n:Int)),(43,lw hi lo),(7,.int .i64 0),(6,Sx.pt g6),(5,Sx.pt g5)] [⟨g6,24,zc r2⟩,⟨gP,24,zc a⟩,⟨g5,24,zc m⟩] by
    have hS961:A [9,8,7,6,0] [(51,zk r1),(57,.tuple #[zk r2,.int .u64 (Q:Int)]),(50,.tuple #[zk r2,.int .u64 (Q:Int)]),(58,zk r2),(59,.int .u64 (Q:Int)),(13,.int .i64 (j:Int)),(47,.int .i64 (j:Int)),(12,Sx.pt gP),(44,.int .i64 (n:Int)),(43,lw hi lo),(7,.int .i64 0),(6,Sx.pt g6),(5,Sx.pt g5)] [⟨g6,24,zc r1⟩,⟨gP,24,zc a⟩,⟨g5,24,zc m⟩]:=by
     refine (hA _ _ _).2 (WT.step [10] Dtt hc hT ⟨⟨_,rfl,?_⟩,trivial⟩)
     ·refine Tw ?_;exact WT.go [] hA (hS1985)
    have hS1473:A [10,8,7,6,0] [(51,zk r1),(57,.tuple #[zk r2,.int .u64 (Q:Int)]),(50,.tuple #[zk r2,.int .u64 (Q:Int)]),(58,zk r2),(13,.int .i64 (j:Int)),(47,.int .i64 (j:Int)),(12,Sx.pt gP),(44,.int .i64 (n:Int)),(43,lw hi lo),(7,.int .i64 0),(6,Sx.pt g6),(5,Sx.pt g5)] [⟨g6,24,zc r2⟩,⟨gP,24,zc a⟩,⟨g5,24,zc m⟩]:=by
     refine (hA _ _ _).2 (WT.step [9] Dtt hc hT ⟨⟨_,rfl,?_⟩,trivial⟩)
     ·refine Tw ?_;exact WT.go [(59,.int .u64 (Q:Int))] hA (hS1985)
    have hS449:A [8,7,6,0] [(51,zk r1),(57,.tuple #[zk r2,.int .u64 (Q:Int)]),(50,.tuple #[zk r2,.int .u64 (Q:Int)]),(58,zk r2),(13,.int .i64 (j:Int)),(47,.int .i64 (j:Int)),(12,Sx.pt gP),(44,.int .i64 (n:Int)),(43,lw hi lo),(7,.int .i64 0),(6,Sx.pt g6),(5,Sx.pt g5)] [⟨g6,24,zc r1⟩,⟨gP,24,zc a⟩,⟨g5,24,zc m⟩]:=by
     refine (hA _ _ _).2 (WT.step [9,10] Dtt hc hT ⟨⟨_,rfl,?_⟩,⟨_,rfl,?_⟩,trivial⟩)
     ·refine Tw ?_;exact WT.go [(59,.int .u64 (Q:Int))] hA (hS961)
     ·refine Tw ?_;exact WT.go [] hA (hS1473)
    have hS705:A [9,7,6,0] [(51,zk r1),(57,.tuple #[zk r2,.int .u64 (Q:Int)]),(50,.tuple #[zk r2,.int .u64 (Q:Int)]),(59,.int .u64 (Q:Int)),(13,.int .i64 (j:Int)),(47,.int .i64 (j:Int)),(12,Sx.pt gP),(44,.int .i64 (n:Int)),(43,lw hi lo),(7,.int .i64 0),(6,Sx.pt g6),(5,Sx.pt g5)] [⟨g6,24,zc r1⟩,⟨gP,24,zc a⟩,⟨g5,24,zc m⟩]:=by
     refine (hA _ _ _).2 (WT.step [8] Dtt hc hT ⟨⟨_,rfl,?_⟩,trivial⟩)
     ·refine Tw ?_;exact WT.go [(58,zk r2)] hA (hS961)
    have hS193:A [7,6,0] [(51,zk r1),(57,.tuple #[zk r2,.int .u64 (Q:Int)]),(50,.tuple #[zk r2,.int .u64 (Q:Int)]),(13,.int .i64 (j:Int)),(47,.int .i64 (j:Int)),(12,Sx.pt gP),(44,.int .i64 (n:Int)),(43,lw hi lo),(7,.int .i64 0),(6,Sx.pt g6),(5,Sx.pt g5)] [⟨g6,24,zc r1⟩,⟨gP,24,zc a⟩,⟨g5,24,zc m⟩]:=by
     refine (hA _ _ _).2 (WT.step [8,9] Dtt hc hT ⟨⟨_,rfl,?_⟩,⟨_,rfl,?_⟩,trivial⟩)
     ·refine Tw ?_;exact WT.go [(58,zk r2)] hA (hS449)
     ·refine Tw ?_;exact WT.go [(59,.int .u64 (Q:Int))] hA (hS705)
    have hS65:A [6,0] [(51,zk r1),(57,.tuple #[zk r2,.int .u64 (Q:Int)]),(13,.int .i64 (j:Int)),(47,.int .i64 (j:Int)),(12,Sx.pt gP),(44,.int .i64 (n:Int)),(43,lw hi lo),(7,.int .i64 0),(6,Sx.pt g6),(5,Sx.pt g5)] [⟨g6,24,zc r1⟩,⟨gP,24,zc a⟩,⟨g5,24,zc m⟩]:=by
     refine (hA _ _ _).2 (WT.step [7] Dtt hc hT ⟨⟨_,rfl,?_⟩,trivial⟩)
     ·refine Tw ?_;exact WT.go [(50,.tuple #[zk r2,.int .u64 (Q:Int)])] hA (hS193)
    have hS1:A [0] [(51,zk r1),(13,.int .i64 (j:Int)),(47,.int .i64 (j:Int)),(12,Sx.pt gP),(44,.int .i64 (n:Int)),(43,lw hi lo),(7,.int .i64 0),(6,Sx.pt g6),(5,Sx.pt g5)] [⟨g6,24,zc r1⟩,⟨gP,24,zc a⟩,⟨g5,24,zc m⟩]:=by
     refine (hA _ _ _).2 (WT.step [6] Dtt hc hT ⟨⟨_,rfl,?_⟩,trivial⟩)
     ·refine WO.acall (hc:=hX) (k:=?_);exact WT.go [(57,.tuple #[zk r2,.int .u64 (Q:Int)])] hA (hS65)
    have hS0:A [] [(13,.int .i64 (j:Int)),(47,.int .i64 (j:Int)),(12,Sx.pt gP),(44,.int .i64 (n:Int)),(43,lw hi lo),(7,.int .i64 0),(6,Sx.pt g6),(5,Sx.pt g5)] [⟨g6,24,zc r1⟩,⟨gP,24,zc a⟩,⟨g5,24,zc m⟩]:=by
     refine (hA _ _ _).2 (WT.step [0] Dtt hc hT ⟨⟨_,rfl,?_⟩,trivial⟩)
     ·refine Tw ?_;exact WT.go [(51,zk r1)] hA (hS1)
    exact WT.less ((hA _ _ _).1 hS0) Dtt Kle.a (by repeat (first|exact Lle.nil|exact Lle.same|refine Lle.c ?_))
   refine (hA _ _ _).2 (WT.fin [0,6,7,8,9,10] 6 hc rfl Kr ?_);clear hc hT hA
   repeat (first|refine WO.does (zi rfl rfl hj1) ?_|refine Tj ?_|intro _|refine Tc ?_|exact Tz)
   subst hR;exact WX.metI (j+1) (hs:=⟨by omega,by omega⟩)
  ·obtain rfl:j=256:=by omega
   rw[eQ,hnx]
   repeat (first|refine WO.does (zi rfl rfl hn1) ?_|refine Tj ?_|intro _|refine Tc ?_|exact Tz)
   exact WX.metI (n+1) (hs:=⟨by omega,by omega⟩)
 ·obtain rfl:n=2:=by omega
  repeat (first|refine Tk ?_|intro _|exact Tz)
  done
theorem ab4 (lo hi m:Nat) (hlo:lo<ze) (hhi:hi<ze) (hm:m<ze) (h0:0<m):Fn Tryz.prog 186 [zk lo,zk hi,zk m] Tr (Is (.tuple #[zk ((hi*ze+lo)%m),.int .i64 0])):=by
 by_cases hs:m<18446744073709551616
 ·exact .of fun w=>tM lo hi m hlo hhi h0 hs w
 ·exact acX lo hi m hlo hhi hm h0 hs
theorem bZ (a b m:Nat) (ha:a<m) (hb:b<m) (hm:m<18446744073709551616):Fn Tryz.prog 134 [.int .u64 (a:Int),.int .u64 (b:Int),.int .u64 (m:Int)] Tr (Is (.int .u64 ((a*b%m:Nat):Int))):=by
 have hM:=bu a b Om Om;have hlt:a*b / 18446744073709551616<m:=by
  rw[Nat.div_lt_iff_lt_mul Om];have h1:a*b≤a*m:=Nat.mul_le_mul_left _ Om;have h2:a*m≤18446744073709551615*m:=Nat.mul_le_mul_right _ Om;omega
 have hD:=bo (a*b / 18446744073709551616) (a*b%18446744073709551616) m (Nat.mod_lt _ Om) hm hlt;rw[show a*b / 18446744073709551616*18446744073709551616+a*b%18446744073709551616=a*b by rw[Nat.mul_comm (a*b / 18446744073709551616)];exact Nat.div_add_mod _ _] at hD;generalize a*b%18446744073709551616=L at *;generalize a*b / 18446744073709551616=H at *;generalize a*b / m=q at *;generalize a*b%m=r at *;refine Fn.enter Tryz.func134 rfl rfl rfl ?_;intro w hw
 repeat (first|refine Tj ?_|intro _|refine WO.acall (hc:=hM) (k:=?_)|refine WO.acall (hc:=hD) (k:=?_)|refine Tc ?_|exact Tz)
 done
theorem aan (a b m:Nat) (ha:a<m) (hb:b<m) (hm:m<ze):Fn Tryz.prog 137 [zk a,zk b,zk m] Tr (Is (zk (a*b%m))):=by
 have haB:a<ze:=by omega
 have hbB:b<ze:=by omega
 have hBi:=jG m hm
 by_cases hs:m<18446744073709551616
 ·have hle:zJ m≤64:=vd (by simpa using hs);have hW:Fn Tryz.prog 134 [.int .u64 ((wd 0 a:Nat):Int),.int .u64 ((wd 0 b:Nat):Int),.int .u64 ((wd 0 m:Nat):Int)] Tr (Is (.int .u64 ((a*b%m:Nat):Int))):=by
   rw[ii (by omega:a<_),ii (by omega:b<_),ii hs];exact bZ a b m ha hb hs
  have hO:=ahJ (a*b%m) (Nat.lt_trans (Nat.mod_lt _ Om) hs);generalize zJ m=N at *;generalize a*b%m=r at *;refine Fn.enter Tryz.func137 rfl rfl rfl ?_;intro w hw
  repeat (first|refine Tj ?_|intro _|refine WO.acall (hc:=hBi) (k:=?_)|refine Tc ?_|exact Tz)
  refine WC.dT rfl Om ?_
  repeat (first|refine Tj ?_|intro _|refine WO.acall (hc:=hW) (k:=?_)|refine WO.acall (hc:=hO) (k:=?_)|refine Tc ?_|exact Tz)
  done
 ·have hle:¬ zJ m≤64:=by rw[yY];simpa using hs
  have hM:=ahB a b haB hbB;have hW:=ab4 (a*b%ze) (a*b / ze) m (Nat.mod_lt _ zE) (by
   rw[Nat.div_lt_iff_lt_mul zE];exact Nat.mul_lt_mul'' haB hbB) hm Om
  rw[show a*b / ze*ze+a*b%ze=a*b by rw[Nat.mul_comm (a*b / ze)];exact Nat.div_add_mod _ _] at hW;generalize zJ m=N at *;generalize a*b%m=r at *;generalize a*b%ze=lo at *;generalize a*b / ze=hi at *;refine Fn.enter Tryz.func137 rfl rfl rfl ?_;intro w hw
  repeat (first|refine Tj ?_|intro _|refine WO.acall (hc:=hBi) (k:=?_)|refine Tc ?_|exact Tz)
  refine WC.dF rfl Om ?_
  repeat (first|refine Tj ?_|intro _|refine WO.acall (hc:=hM) (k:=?_)|refine WO.acall (hc:=hW) (k:=?_)|refine Tc ?_|exact Tz)
  done
end Sx
end
section
open Go Go.RowKit
namespace Sx
theorem aG (n:Nat) (h:n<18446744073709551616:=by omega):Fn Tryz.prog 63 [.int .u64 (n:Int)] Tr (Is (zk n)):=ahJ n h
theorem ue:Fn Tryz.prog 63 [.int .u64 1] Tr (Is (zk 1)):=aG 1
theorem mJ:Fn Tryz.prog 63 [.int .u64 0] Tr (Is (zk 0)):=aG 0
theorem lD (a b:Nat) (ha:a<ze) (hb:b<ze):Fn Tryz.prog 28 [zk a,zk b] Tr (Is (.int .i64 (td a b))):=ahm a b ha hb
theorem lf (a:Nat) (ha:a<ze):Fn Tryz.prog 131 [zk a] Tr (Is (.int .i64 (zJ a:Nat))):=jG a ha
theorem agG (a:Nat) (i:Int) (ha:a<ze) (h0:0≤i) (h1:i≤1000000):Fn Tryz.prog 182 [zk a,.int .i64 i] Tr (Is (.int .u64 (vZ a i.toNat:Nat))):=by
 obtain⟨n,rfl⟩:=Int.eq_ofNat_of_zero_le h0;rw[Int.toNat_natCast];exact aei a n ha Om
theorem ack (a b:Nat) (ha:a<ze) (hb:b<ze):Fn Tryz.prog 237 [zk a,zk b] Tr (Is (.tuple #[zk ((a+b)%ze),.int .u64 (((a+b) / ze:Nat):Int)])):=afa a b ha hb
theorem acd (a b:Nat) (ha:a<ze) (hb:b<ze):Fn Tryz.prog 65 [zk a,zk b] Tr (Is (.tuple #[zk ((a+ze - b)%ze),.int .u64 ((bw a b 0:Nat):Int)])):=ad0 a b ha hb
theorem ahC (a b:Nat) (ha:a<ze) (hb:b<ze) (h0:0<b):Fn Tryz.prog 215 [zk a,zk b] Tr (Is (.tuple #[zk (a / b),zk (a%b),.int .i64 0])):=afN a b ha hb h0
theorem abR (a b:Nat) (ha:a<ze) (hb:b<ze):Fn Tryz.prog 214 [zk a,zk b] Tr (Is (zk (Nat.gcd a b))):=abE a b ha hb (fun x y hx hy h=>afN x y hx hy h)
theorem afw (lo hi m:Nat) (hlo:lo<ze) (hhi:hi<ze) (hm:m<ze) (h0:0<m):Fn Tryz.prog 186 [zk lo,zk hi,zk m] Tr (Is (.tuple #[zk ((hi*ze+lo)%m),.int .i64 0])):=ab4 lo hi m hlo hhi hm h0
theorem kU (a b m:Nat) (ha:a<m) (hb:b<m) (hm:m<ze):Fn Tryz.prog 137 [zk a,zk b,zk m] Tr (Is (zk (a*b%m))):=aan a b m ha hb hm
theorem afp (a b m:Nat) (ha:a<m) (hb:b<m) (hm:m<18446744073709551616):Fn Tryz.prog 134 [.int .u64 (a:Int),.int .u64 (b:Int),.int .u64 (m:Int)] Tr (Is (.int .u64 ((a*b%m:Nat):Int))):=bZ a b m ha hb hm
end Sx
end
section
open Go Go.RowKit
namespace Sx
attribute [local irreducible] DQ WC WO WX wd
theorem ahc (x n:Nat) (hx:x<4294967296) (h0:0<n) (hn:n<32):Fn Tryz.prog 274 [.int .u32 (x:Int),.int .i64 (-((n:Nat):Int))] Tr (Is (.int .u32 ((Sha.rotr n x:Nat):Int))):=by
 have h1:=adu h0 hn;have h2:=agZ h0 hn;have h3:IntKind.u64.wrap (32 - ((32 - n:Nat):Int))=((n:Nat):Int):=uf Om Om Om;have h4:IntKind.u32.wrap (((BitVec.ofInt IntKind.u32.bits ((x*2 ^ (32 - n)%4294967296:Nat):Int) ||| BitVec.ofInt IntKind.u32.bits ((x / 2 ^ n:Nat):Int)).toNat:Nat):Int)=((Sha.rotr n x:Nat):Int):=by
  rw[ab1 (Nat.mod_lt _ Om) (Nat.lt_of_le_of_lt (Nat.div_le_self _ _) hx),Sha.rotr,Nat.or_comm]
 refine Fn.enter Tryz.func274 rfl rfl rfl ?_;intro w hw
 repeat (first|refine Tj ?_|intro _|refine WO.does (zr rfl h1) ?_|refine WO.does (tY rfl rfl h2) ?_|refine WO.does (zG rfl rfl h3) ?_|refine WO.does (sW rfl rfl Om (dN x (32 - n) Om)) ?_|refine WO.does (vo rfl rfl Om (u5 (by show n≤32;omega))) ?_|refine WO.does (uK rfl rfl h4) ?_|refine Tc ?_|exact Tz)
theorem abQ (x b c:Nat) (ns:LN) (hx:x<4294967296) (hns:∀ n∈ns,0<n∧n<32) (hl:ns.length≤100) :
  Fn Tryz.prog 258 [.int .u32 (x:Int),AQ b ns.length c] (fun w=>Seg w b 0 (inC ns)) (Is (.int .u32 ((qY x ns:Nat):Int))):=by
 refine Fn.enter Tryz.func258 rfl rfl rfl ?_;intro w hw
 repeat (first|refine Tk ?_|intro _|exact Tz)
 refine WC.loopI (σ:=Nat) (fun i=>i≤ns.length) (fun i=>[(0,.int .u32 (x:Int)),(4,.int .u32 ((qY x (ns.take i):Nat):Int)),(7,AQ b ns.length c),(8,.int .i64 (ns.length:Int)),(9,.int .i64 (i:Int))]) (fun _=>[]) (fun i=>ns.length - i) 0 (fun i hi=>?_) (Nat.zero_le _)
 try dsimp only at hi ⊢
 by_cases hlt:i<ns.length
 ·have hget:(inC ns)[i - 0]?=some (.int .i64 ((ns[i]:Nat):Int)):=by rw[Nat.sub_zero];exact adG hlt
  have hn:=hns _ (List.getElem_mem hlt);have hR:=ahc x ns[i] hx hn.1 hn.2;have hnext:qY x (ns.take i) ^^^ Sha.rotr ns[i] x=qY x (ns.take (i+1)):=by rw[List.take_succ_eq_append_getElem hlt,fU]
  have hneg:IntKind.i64.wrap (0 - ((ns[i]:Nat):Int)) = -((ns[i]:Nat):Int):=zl Om Om Om;have hxor:=bR (kA hx (ns.take i)) (cU (n:=ns[i]) hx);rw[hnext] at hxor
  repeat (first|refine Tk ?_|intro _|exact Tz)
  refine WC.dT rfl Om ?_
  repeat (first|refine Tj ?_|intro _|refine WO.acall (hc:=hR) (k:=?_)|(refine WO.does (jf rfl) ?_;rw[hneg])|refine WO.does (jV rfl rfl hxor) ?_|refine Tc ?_|exact Tz)
  refine WX.metI (i+1) (hs:=⟨by show i+1≤ns.length;omega,by show ns.length - (i+1)<ns.length - i;omega⟩)
 ·have hii:i=ns.length:=by omega
  have hv:qY x (ns.take i)=qY x ns:=by rw[hii,List.take_length]
  rw[hv]
  repeat (first|refine Tk ?_|intro _|exact Tz)
  refine WC.dF rfl Om ?_
  repeat (first|refine Tk ?_|intro _|exact Tz)
end Sx
end
section
open Go Go.RowKit Go.BigFrame
namespace Sx
attribute [local irreducible] DQ WC WO WX wd
section
open Kp
variable {P:Program} {w0:World} {gs:LN} {n:Nat} {fl:LN} {Q:Exit→Act→World→Prop} {ops:List Oper} {L0:List Ent}
variable {tail rest:List Oper} {i:Nat} {C:zT→Prop} {K:zT→List (Nat × Value)} {N:zT→List (Nat × Ent)}
variable {d:Nat} {op:Op} {ty:TypeId} {pos:String} {after:Array Edge} {gd:Option (Nat × Bool)}
theorem DQ.acallB {f:FuncId} [Cal P f] {xs:Array Operand} {ats:Array TypeId} {vs:zT→List Value} {R:zT→World→Prop} {v:Value} (j:Nat) (e:zT→Ent) (hc:∀ s,Fn P f (vs s) (R s) (Is v)) (hR:∀ s w,Mr w0 gs (e s::L0) w→R s w)
  (k:DQ P w0 gs n fl Q ops L0 tail (i+1) rest C (fun s=>(d,v)::K s) N) (ha:∀ s,evs (K s) xs.toList=some (vs s):=by (intro s;rfl)) (hm:∀ s,(j,e s)∈N s:=by (intro s;repeat (first|exact .head _|apply List.Mem.tail)))
  (hanc:anc ops i j=true:=by decide +kernel) (hfl:fl.contains i=false:=by rfl) (hw:∀ s,wk ops (K s) gd=some true:=by intro _;rfl) (hd:Nat.blt d n=true:=by rfl) :
  DQ P w0 gs n fl Q ops L0 tail i (⟨some d,.call { callee:=.value (.func f),args:=xs,argTypes:=ats },ty,pos,after,gd⟩::rest) C K N :=
 DQ.callE (v:=fun _=>v) (fun s=>[e s]) (fun s=>.cons j (hm s) hanc .nil) (fun s _=>hc s) ha (fun s _ w h=>hR s w h) Dp.const k hfl hw hd
end
theorem ac1:Fn Tryz.prog 175 [] Tr (Is (.agg (w3C Sha.H0).toArray)):=by
 refine Fn.enter Tryz.func175 rfl rfl rfl ?_;intro w hw
 repeat (first|refine Tk ?_|intro _|exact Tz)
set_option maxRecDepth 100000 in
theorem adq:Fn Tryz.prog 259 [] Tr (Is (.agg (w3C Sha.K).toArray)):=by
 refine Fn.enter Tryz.func259 rfl rfl rfl ?_;intro w hw
 repeat (first|refine Tj ?_|intro _|refine WO.does (zz (cs:=w3C Sha.K) rfl rfl Kr) ?_|refine Tc ?_|exact Tz)
end Sx
end
section
open Go Go.RowKit Go.BigFrame
namespace Sx
section
variable {P:Program} {w0:World} {gs:LN} {n:Nat} {ops:List Oper} {K0:List (Nat × Value)} {Lc:List Ent} {T:List (Nat × Value)}
theorem Tlq.auto {i:Nat} {v:Value} {r:List (Nat × Value)} {o:Oper} (hr:Tlq P w0 gs ops K0 Lc T r) (ho:nth ops i=some o:=by rfl) (h:Quo P w0 gs (tvs ops T (dps ops i)++K0) Lc o v:=by first|exact Quo.does pg|exact Quo.does zw|exact Quo.does zx|exact Quo.does yv|exact Quo.does u6):Tlq P w0 gs ops K0 Lc T ((i,v)::r):=.cons ho h hr
end
end Sx
end
end Go.Proofs.YtiaibpcaloigkaaGreatDoor
