/- Part 19 of the proof. -/
import Derived.Test.YteibfbjpkjkejaaGreatDoorS14
import Derived.Test.YteibfbjpkjkejaaGreatDoorS17
set_option linter.unusedSimpArgs false
set_option linter.unusedVariables false
set_option maxHeartbeats 8000000
namespace Go.Proofs.YteibfbjpkjkejaaGreatDoor
section
open Go Go.RowKit Go.BigFrame
namespace Sx
attribute [local irreducible] DQ DQS WC WO WX wd
def vY (s buf:List Nat) (n:Nat):List Value:=[.int .i64 1]++w3C s++(byC buf++[.int .u64 (n:Int)])
theorem lY {A M B y:List Value} {off:Nat} (h:off+y.length≤M.length):over (A++M++B) (A.length+off) y=A++over M off y++B:=by
 unfold over;have h1:(A++M++B).take (A.length+off)=A++M.take off:=by
  rw[List.append_assoc,List.take_append,List.take_of_length_le (by omega),show A.length+off - A.length=off by omega,List.take_append_of_le_length (by omega)]
 have h2:(A++M++B).drop (A.length+off+y.length)=M.drop (off+y.length)++B:=by
  rw[List.append_assoc,List.drop_append,List.drop_of_length_le (by omega),show A.length+off+y.length - A.length=off+y.length by omega,List.drop_append_of_le_length (by omega),List.nil_append]
 rw[h1,h2];simp
theorem aaM {A M B:List Value}:cut (A++M++B) A.length M.length=M:=by
 unfold cut;rw[List.append_assoc,List.drop_left,List.take_left]
theorem y4 {s buf:List Nat} {n:Nat} (h1:s.length=8) (h2:buf.length=64):(vY s buf n).length=74:=by simp[vY,zw,zh,h1,h2]
theorem adr {s buf:List Nat} {n:Nat} (h1:s.length=8):cut (vY s buf n) 1 8=w3C s:=by
 have:=aaM (A:=[.int .i64 1]) (M:=w3C s) (B:=byC buf++[.int .u64 (n:Int)]);rwa [zw,h1] at this
theorem aG {s buf:List Nat} {n:Nat} (h1:s.length=8) (h2:buf.length=64):cut (vY s buf n) 9 64=byC buf:=by
 have:=aaM (A:=[.int .i64 1]++w3C s) (M:=byC buf) (B:=[.int .u64 (n:Int)]);rw[zh,h2,List.length_append,zw,h1,List.append_assoc _ (byC buf)] at this;exact this
theorem dy {s buf:List Nat} {n:Nat} (h1:s.length=8) (h2:buf.length=64):(vY s buf n)[73]?=some (.int .u64 (n:Int)):=by
 unfold vY;rw[List.getElem?_append_right (by simp[zw,h1]),List.getElem?_append_right (by simp[zw,zh,h1,h2])];simp[zw,zh,h1,h2]
theorem iR {s buf Y:List Nat} {n off:Nat} (h1:s.length=8) (h2:buf.length=64) (h:off+Y.length≤64):over (vY s buf n) (9+off) (byC Y)=vY s (ovN buf off Y) n:=by
 have:=lY (A:=[.int .i64 1]++w3C s) (M:=byC buf) (B:=[.int .u64 (n:Int)]) (y:=byC Y) (off:=off) (by rw[zh,zh];omega);rw[ab6,List.length_append,zw,h1,List.append_assoc _ (byC buf),List.append_assoc _ (byC _)] at this;exact this
theorem av {s s' buf:List Nat} {n:Nat} (h1:s.length=8) (h2:s'.length=8):over (vY s buf n) 1 (w3C s')=vY s' buf n:=by
 have:=lY (A:=[.int .i64 1]) (M:=w3C s) (B:=byC buf++[.int .u64 (n:Int)]) (y:=w3C s') (off:=0) (by rw[zw,zw];omega);have e:over (w3C s) 0 (w3C s')=w3C s':=by simp[over,zw,h1,h2]
 rw[e] at this;exact this
theorem aae {s buf:List Nat} {n m:Nat} (h1:s.length=8) (h2:buf.length=64):over (vY s buf n) 73 [.int .u64 (m:Int)]=vY s buf m:=by
 have:=lY (A:=[.int .i64 1]++w3C s++byC buf) (M:=[.int .u64 (n:Int)]) (B:=[]) (y:=[.int .u64 (m:Int)]) (off:=0) (by simp);rw[List.length_append,List.length_append,zw,zh,h1,h2] at this;simp only[List.append_nil,List.append_assoc] at this;unfold vY;simp only[List.append_assoc];exact this
theorem adT (n:Nat):((n:Nat):Int).tmod 64=((n%64:Nat):Int):=by
 rw[Int.tmod_eq_emod_of_nonneg (by omega)];rfl
theorem take_len {s b:List Nat} (h:s.length=8):(Sha.take s b).length=8:=by
 unfold Sha.take;rw[yK (by rw[vF h,h]),vF h]
theorem fS {r s:List Nat}:∀ x∈Sha.addW r s,x<4294967296:=by
 intro x hx;unfold Sha.addW at hx;obtain⟨i,hi,rfl⟩:=List.getElem_of_mem hx;rw[List.getElem_zipWith];exact Nat.mod_lt _ (by omega)
theorem jE (g c:Nat) (p:Option Addr) (s0 b0:List Nat) (n0:Nat) (X:List Nat) (hX:∀ x∈X,x<256) (hs8:s0.length=8) (hsl:∀ x∈s0,x<4294967296) (hb64:b0.length=64) (hbl:∀ x∈b0,x<256) (hn:n0+X.length≤1152921504606846976) :
  FnM Tryz.prog 113 [pt g,.slice p X.length c] g 191 (vY s0 b0 n0) (vY (wr s0 b0 n0 X).1 (wr s0 b0 n0 X).2.1 (wr s0 b0 n0 X).2.2) (RdN g (.slice p X.length c) X.length (byC X)) (.tuple #[]):=by
 refine FnM.enter Tryz.func113 rfl rfl rfl ?_;intro w hw;generalize hF:wr s0 b0 n0 X=F
 repeat (first|refine Tw ?_|(refine Tm ?_;intro _)|exact Tz)
 refine WC.loopI (σ:=List Nat × List Nat × Nat × Nat × Value) (fun x=>x.2.2.2.1≤X.length∧wr x.1 x.2.1 x.2.2.1 (X.drop x.2.2.2.1)=F∧x.1.length=8∧(∀ y∈x.1,y<4294967296)∧x.2.1.length=64∧(∀ y∈x.2.1,y<256)∧x.2.2.1+(X.length - x.2.2.2.1)≤1152921504606846976∧RdN g x.2.2.2.2 (X.length - x.2.2.2.1) (byC (X.drop x.2.2.2.1)) w)
  (fun x=>[(0,pt g),(1,x.2.2.2.2)]) (fun x=>[⟨g,191,vY x.1 x.2.1 x.2.2.1⟩]) (fun x=>X.length - x.2.2.2.1) (s0,b0,n0,0,.slice p X.length c) (fun x hx=>?_) ⟨Nat.zero_le _,hF,hs8,hsl,hb64,hbl,hn,hw⟩
 obtain⟨s,buf,n,j,v⟩:=x;obtain⟨hj,hwr,h8,hsl,h64,hbl,hn,hv⟩:=hx;dsimp only at hj hwr h8 hsl h64 hbl hn hv ⊢
 by_cases hlt:j<X.length
 ·have hD:X.drop j≠[]:=by intro h;have:=congrArg List.length h;rw[List.length_drop] at this;simp at this;omega
  have hDl:(X.drop j).length=X.length - j:=List.length_drop;have hDb:∀ x∈X.drop j,x<256:=vN hX j;rw[lE hD] at hwr;have hkp:=ox (n:=n) hD;have hkle:wrK n (X.drop j)≤X.length - j:=by unfold wrK;omega
  have hoff:=Nat.mod_lt n (show 0<64 by omega);have hk64:n%64+wrK n (X.drop j)≤64:=by unfold wrK;omega
  have hkd:wrK n (X.drop j)=min (X.length - j) (64 - n%64):=by unfold wrK;rw[hDl]
  rw[List.drop_drop] at hwr;have hYl:((X.drop j).take (wrK n (X.drop j))).length=wrK n (X.drop j):=by rw[List.length_take];omega
  have hYb:=tK hDb (wrK n (X.drop j));have hYt:(byC (X.drop j)).take (wrK n (X.drop j))=byC ((X.drop j).take (wrK n (X.drop j))):=kQ _ _;generalize hk:wrK n (X.drop j)=k at *;generalize (X.drop j).take k=Y at *;have hBl:(ovN buf (n%64) Y).length=64:=by rw[pC (by omega),h64]
  have hBb:∀ y∈ovN buf (n%64) Y,y<256:=by
   intro y hy;unfold ovN at hy
   rcases List.mem_append.1 hy with hy|hy
   ·rcases List.mem_append.1 hy with hy|hy
    ·exact hbl y (List.mem_of_mem_take hy)
    ·exact hYb y hy
   ·exact hbl y (List.mem_of_mem_drop hy)
  have hov:=iR (s:=s) (n:=n) h8 h64 (show n%64+Y.length≤64 by omega);generalize hB:ovN buf (n%64) Y=B at *;have hovn:=aae (s:=s) (buf:=B) (n:=n) (m:=n+k) h8 hBl;have hgn:=dy (n:=n) h8 h64;have hgn2:=dy (n:=n) h8 hBl;have hl74:=y4 (n:=n) h8 h64;have hl74b:=y4 (n:=n) h8 hBl;have hvv:=hv;obtain⟨q,cc,rfl,hcc⟩:=hv;have hnext:=hvv.from (l:=k) (by omega);rw[oX,List.drop_drop,Nat.sub_sub] at hnext;have hrem:((n:Nat):Int).tmod 64=((n%64:Nat):Int):=adT n;have hadd:IntKind.u64.wrap ((n:Int)+(k:Int))=((n+k:Nat):Int):=v7 (by omega) (by omega) (by omega);have hsum:IntKind.i64.wrap (((n%64:Nat):Int)+(k:Int))=((n%64+k:Nat):Int):=zr (by omega) (by omega) (by omega);have hgt:(((0:Int))<((X.length - j:Nat):Int)):=by omega
  repeat (first|refine Tw ?_|(refine Tm ?_;intro _)|exact Tz)
  refine WC.dT rfl hgt ?_
  repeat (first|refine WO.does (zR (hc:=hgn)) ?_|refine WO.does (zR (hc:=hgn2)) ?_|refine WO.does (zl rfl rfl hadd) ?_|refine WO.does (zl rfl rfl hsum) ?_|refine WO.stores (zC (hc:=hovn) (hle:=by rw[hl74b];rfl)) ?_|refine Ta ?_|(refine Tm ?_;intro _)|refine WO.does (vw rfl rfl (by decide) hrem) ?_|refine WO.does (r8 rfl rfl hoff (by rw[Nat.mul_one])) ?_|refine WO.both (qm (st:=95) rfl rfl rfl hvv.rds (by rw[zh,hDl,Nat.mul_one]) (m:=k) hkd.symm (ys:=byC Y) (by rw[Nat.mul_one];exact hYt) (zM Y) .here hov (by rw[hl74,zh];omega) (by decide)) ?_|refine WO.does (uN rfl rfl (by omega)) ?_|refine Tc ?_|exact Tz)
  by_cases hf:n%64+k=64
  ·rw[if_pos hf] at hwr;have hcs:=adr (buf:=B) (n:=n+k) h8;have hcb:=aG (n:=n+k) h8 hBl;have htl:=take_len (b:=B) h8;have hovs:=av (buf:=B) (n:=n+k) h8 htl;have hl74c:=y4 (n:=n+k) h8 hBl;obtain⟨s0',s1',s2',s3',s4',s5',s6',s7',rfl⟩:=eight h8;have hT:=adp s0' s1' s2' s3' s4' s5' s6' s7' B hBb hBl hsl;have htlt:∀ x∈Sha.take [s0',s1',s2',s3',s4',s5',s6',s7'] B,x<4294967296:=fS;generalize Sha.take [s0',s1',s2',s3',s4',s5',s6',s7'] B=s' at *;generalize [s0',s1',s2',s3',s4',s5',s6',s7']=sv at *;refine WC.dT rfl (by omega) ?_
   repeat (first|refine Tw ?_|(refine Tm ?_;intro _)|exact Tz)
   refine WC.adraw 12 (k:=?_)
   repeat (first|refine Da ?_|refine DQ.acall (hc:=hT) (k:=?_)|refine DQ.does (fun s _=>zy (vs:=w3C sv) (hc:=hcs) (hl:=by rw[zw,h8])) Dp.const ?_|refine DQ.does (fun s _=>zy (vs:=byC B) (hc:=hcb) (hl:=by rw[zh,hBl])) Dp.const ?_|refine Dc ?_)
   refine DQ.anil (k:=?_);intro sx _
   repeat (first|refine WO.stores (zC (vs:=w3C s') (hl:=by rw[zw,htl]) (h1:=lR s') (hc:=hovs) (hle:=by rw[hl74c,zw,htl];rfl)) ?_|refine Ta ?_|(refine Tm ?_;intro _)|refine Tc ?_|exact Tz)
   refine WX.metI (s',B,n+k,j+k,.slice (d8 q cc k 1) (X.length - j - k) (cc - k)) (hs:=⟨⟨by show j+k≤X.length;omega,hwr,htl,htlt,hBl,hBb,by show n+k+(X.length - (j+k))≤_;omega,by rw[Nat.sub_sub];exact hnext⟩,by show X.length - (j+k)<X.length - j;omega⟩)
  ·rw[if_neg hf] at hwr;refine WC.dF rfl (by omega) ?_
   repeat (first|refine Tw ?_|(refine Tm ?_;intro _)|exact Tz)
   refine WX.metI (s,B,n+k,j+k,.slice (d8 q cc k 1) (X.length - j - k) (cc - k)) (hs:=⟨⟨by show j+k≤X.length;omega,hwr,h8,hsl,hBl,hBb,by show n+k+(X.length - (j+k))≤_;omega,by rw[Nat.sub_sub];exact hnext⟩,by show X.length - (j+k)<X.length - j;omega⟩)
 ·have hj2:j=X.length:=by omega
  have hdr:X.drop j=[]:=by rw[hj2,List.drop_length]
  rw[hdr,nW] at hwr;obtain⟨q,cc,rfl,hcc⟩:=hv;subst hwr
  repeat (first|refine Tw ?_|(refine Tm ?_;intro _)|exact Tz)
  refine WC.dF rfl (by omega) ?_
  repeat (first|refine Tw ?_|(refine Tm ?_;intro _)|exact Tz)
  exact WX.retM_ofN (aez rfl) Hs.here
section
variable {P:Program} {w0:World} {gs:List Nat} {K:List (Nat × Value)} {L:List Ent}
theorem r5 {x y:Operand} {t yt ty e:TypeId} {p:Addr} (hu:P.underlying t=some (.pointer e)) (hx:ev K x=some (.pointer (some p))) (hy:ev K y=some (.pointer none)):Does P w0 gs K L (.binOp .eql t x y yt) ty (.bool false):=by
 intro a w hk _ o ho _;have h1:(eqGuard .eql t x y (.pointer (some p)) (.pointer none)).run P w=.ok () w:=by unfold eqGuard;rfl
 have h4:∀ d,(Op.equalIn (d+1) t (.pointer (some p)) (.pointer none)).run P w=.ok false w:=fun d=>by
  simp[Op.equalIn,underlying,hu]
 have h3:(Op.equalIn 10000 t (.pointer (some p)) (.pointer none)).run P w=.ok false w:=h4 9999;have h2:(binOp .eql t (.pointer (some p)) (.pointer none)).run P w=.ok (.bool false) w:=by
  simp only[binOp,Op.equal,Op.maxDepth,Sem.run_bind,h3,Result.andThen_ok,Sem.run_pure]
 simp only[execOp,ho,hk.eval hx,hk.eval hy,Sem.run_bind,h1,Result.andThen_ok,h2,Sem.run_pure]
end
theorem RdN.mr {g:Nat} {v:Value} {n:Nat} {xs:List Value} {w0 w:World} {L:List Ent} (h:RdN g v n xs w0) (hm:Mr w0 [g] L w):RdN g v n xs w:=by
 obtain⟨p,c,e,h1,h2,h3,h4⟩:=h;exact⟨p,c,e,h1,h2,h3,h4.imp id fun ⟨b,o,e,hb,hs⟩=>⟨b,o,e,hb,hs.mod hm.mod (by simpa using hb)⟩⟩
theorem im (g c:Nat) (p:Option Addr) (s0 b0:List Nat) (n0:Nat) (X:List Nat) (hX:∀ x∈X,x<256) (hs8:s0.length=8) (hsl:∀ x∈s0,x<4294967296) (hb64:b0.length=64) (hbl:∀ x∈b0,x<256) (hn:n0+X.length≤1152921504606846976) :
  FnM Tryz.prog 73 [pt g,.slice p X.length c] g 191 (vY s0 b0 n0) (vY (wr s0 b0 n0 X).1 (wr s0 b0 n0 X).2.1 (wr s0 b0 n0 X).2.2) (RdN g (.slice p X.length c) X.length (byC X)) (.int .i64 0):=by
 have hW:=jE g c p s0 b0 n0 X hX hs8 hsl hb64 hbl hn;refine FnM.enter Tryz.func73 rfl rfl rfl ?_;intro w hw;generalize vY (wr s0 b0 n0 X).1 (wr s0 b0 n0 X).2.1 (wr s0 b0 n0 X).2.2=cs' at *
 repeat (first|refine Ta ?_|(refine Tm ?_;intro _)|refine WO.does (r5 (t:=140) (e:=191) (by kernel_rfl) rfl rfl) ?_|refine Tc ?_|exact Tz)
 refine WO.callM (hc:=hW) rfl Rp.here (fun w' hm=>hw.mr hm) (by decide) ?_ rfl rfl
 repeat (first|refine Tw ?_|(refine Tm ?_;intro _)|exact Tz)
 exact WX.retM_of (aca rfl (zt rfl)) Hs.here
theorem aN:Fn Tryz.prog 72 [] Tr (Ex (fun s=>pt (s 0)) (fun s=>[⟨s 0,191,vY Sha.H0 (List.replicate 64 0) 0⟩]) (fun _=>True)):=by
 refine Fn.enter Tryz.func72 rfl rfl rfl ?_;intro w hw
 repeat (first|refine Ta ?_|(refine Tm ?_;intro _)|refine WO.acall (hc:=abC) (k:=?_)|refine WO.does (vz (cs:=vY Sha.H0 (List.replicate 64 0) 0) (h2:=rfl)) ?_|refine Tc ?_|exact Tz)
 rename_i g;exact WX.ret1 rfl (zt rfl) [⟨g,191,vY Sha.H0 (List.replicate 64 0) 0⟩] (Lle.cons Pk.here rfl Lle.nil) ⟨fun _=>g,rfl,rfl,trivial⟩
end Sx
end
section
open Go Go.RowKit Go.BigFrame
namespace Sx
theorem aO {s buf:List Nat} {n:Nat} (h1:s.length=8) (h2:buf.length=64):cut (vY s buf n) 0 74=vY s buf n:=by
 unfold cut;rw[List.drop_zero,List.take_of_length_le (by rw[y4 h1 h2];omega)]
theorem cK (s buf:List Nat) (n:Nat):(vY s buf n).all Value.oneCell'=true:=by
 simp[vY,List.all_append,w3C,byC,Value.oneCell']
theorem z7 {cs vs:List Value} (h:cs.length=vs.length):over cs 0 vs=vs:=by
 unfold over;rw[List.take_zero,Nat.zero_add,List.drop_of_length_le (by omega)];simp
theorem WC.ndp {P:Program} {w0:World} {gs:List Nat} {n:Nat} {c:Code} {Q:Exit→Act→World→Prop} {K:List (Nat × Value)} {L:List Ent} (k:(L.map Ent.g).Nodup→WC P w0 gs n c Q K L):WC P w0 gs n c Q K L:=fun a w h1 h2 h3 h4=>k h4.nodup a w h1 h2 h3 h4
attribute [local irreducible] wd DQ DQS WO WC WX
theorem uf {s b:List Nat} (h:s.length=8):∀ q,(Sha.takes s b q).length=8
 | 0=>h
 | q+1=>take_len (uf h q)
theorem ad7 {s buf:List Nat} {n i:Nat} (h1:s.length=8) (hi:i<8):(vY s buf n)[1+i]?=some (.int .u32 ((s.getD i 0:Nat):Int)):=by
 unfold vY;rw[List.append_assoc,List.getElem?_append_right (by simp),List.getElem?_append_left (by simp[zw,h1];omega)];simp[w3C,List.getD,show i<s.length by omega]
theorem zz {cs:List Value} {n:Nat} (h:cs.length=n):cut cs 0 n=cs:=by
 unfold cut;rw[List.drop_zero,List.take_of_length_le (by omega)]
theorem fL (g:Nat) (m s buf:List Nat) (n:Nat) (hH:kw m s buf n) (hs8:s.length=8) (hsl:∀ x∈s,x<4294967296) (hbl:∀ x∈buf,x<256) (hn:n≤1152921504606846000) :
  Fn Tryz.prog 75 [pt g] (fun w=>Seg w g 0 (vY s buf n)) (Is (.agg (byC (Sha.sum m)).toArray)):=by
 have hb64:=hH.len;have hcut:=aO (n:=n) hs8 hb64;have hl74:=y4 (n:=n) hs8 hb64;have hgn:=dy (n:=n) hs8 hb64;have h8n:IntKind.u64.wrap (8*(n:Int))=((8*n:Nat):Int):=v7 (by omega) (by omega) (by omega);have hpl:Sha.pad n<64:=Nat.mod_lt _ (by omega);have h88:=zk 8 (8*n);refine Fn.enter Tryz.func75 rfl rfl rfl ?_;intro w hw
 repeat (first|refine WO.does (zn (vs:=vY s buf n) (hs:=hw) (hc:=hcut) (hl:=hl74)) ?_|refine WO.stores (zC (vs:=vY s buf n) (cs':=vY s buf n) (hl:=hl74) (h1:=cK s buf n) (hc:=z7 (by rw[hl74];simp)) (hle:=by rw[hl74];rfl)) ?_|refine WO.does (zi (hs:=hw) (hc:=hgn)) ?_|refine WO.does (vg rfl rfl h8n) ?_|refine Ta ?_|(refine Tm ?_;intro _)|refine WO.does (r5 (t:=140) (e:=191) (by kernel_rfl) rfl rfl) ?_|(refine WO.makes (yg (l:=1) (c:=64) rfl rfl (by decide) (by decide) (by decide)) ?_;intro q)|refine Tc ?_|exact Tz)
 rename_i g2 g3
 refine WC.loopI (σ:=Nat × Nat × Nat × List Value) (fun x=>1≤x.1∧x.1≤Sha.pad n+1∧(byC (128::List.replicate (x.1 - 1) 0)++x.2.2.2).length=x.2.2.1∧x.2.2.1<9223372036854775808)
  (fun x=>[(0,pt g),(2,pt g2),(3,pt g3),(4,.int .u64 ((8*n:Nat):Int)),(5,.slice (some ⟨x.2.1,0,none⟩) x.1 x.2.2.1)])
  (fun x=>[⟨x.2.1,5,byC (128::List.replicate (x.1 - 1) 0)++x.2.2.2⟩,⟨g3,191,vY s buf n⟩,⟨g2,60,List.replicate 32 (.int .u8 0)⟩]) (fun x=>Sha.pad n+1 - x.1)
  (1,q,64,(mkz 64 [Value.int .u8 0]).drop 1) (fun x hx=>?_) ⟨Nat.le_refl _,by show 1≤Sha.pad n+1;omega,by simp[zh,zS],by show 64<9223372036854775808;omega⟩
 obtain⟨l,q',c,r⟩:=x;obtain⟨hl1,hl2,hlc,hc⟩:=hx;dsimp only at hl1 hl2 hlc hc ⊢;have hst:=bn (n:=n) hl1 hl2;have ha:IntKind.u64.wrap ((n:Int)+((l:Nat):Int))=((n+l:Nat):Int):=v7 (by omega) (by omega) (by omega);have hcv:IntKind.u64.wrap ((l:Nat):Int)=((l:Nat):Int):=u64_in (by omega) (by omega);have hrm:((n+l:Nat):Int).tmod 64=(((n+l)%64:Nat):Int):=adT (n+l);have hbl1:(byC (128::List.replicate (l - 1) 0)).length=l:=by rw[zh];simp;omega
 repeat (first|refine WO.does (zi (hs:=hw) (hc:=hgn)) ?_|refine WO.does (zl rfl rfl ha) ?_|refine WO.does (zN rfl hcv) ?_|refine WO.does (vw rfl rfl (by decide) hrm) ?_|refine Ta ?_|(refine Tm ?_;intro _)|refine Tc ?_|exact Tz)
 by_cases hs:l=Sha.pad n+1
 ·have h56:(n+l)%64=56:=hst.2 hs;subst hs;refine WC.dF rfl (by rw[h56];decide) ?_
  repeat (first|refine Tw ?_|(refine Tm ?_;intro _)|exact Tz)
  have hsh:∀ k,k<8→(((8*n:Nat):Int)).fdiv (2 ^ min (((56 - 8*k:Nat):Int)).toNat IntKind.u64.bits)=((8*n / 2 ^ (8*(7 - k)):Nat):Int):=fun k hk=>by
   rw[tu (by show 56 - 8*k≤64;omega),show 56 - 8*k=8*(7 - k) by omega]
  refine WC.loopI (σ:=Nat × Nat × Nat × List Value) (fun x=>x.1≤8∧(byC (128::List.replicate (Sha.pad n) 0++(be 8 (8*n)).take x.1)++x.2.2.2).length=x.2.2.1∧x.2.2.1<9223372036854775808)
   (fun x=>[(0,pt g),(2,pt g2),(3,pt g3),(4,.int .u64 ((8*n:Nat):Int)),(5,.slice (some ⟨x.2.1,0,none⟩) (Sha.pad n+1+x.1) x.2.2.1),(42,.int .i64 (x.1:Int))])
   (fun x=>[⟨x.2.1,5,byC (128::List.replicate (Sha.pad n) 0++(be 8 (8*n)).take x.1)++x.2.2.2⟩,⟨g3,191,vY s buf n⟩,⟨g2,60,List.replicate 32 (.int .u8 0)⟩]) (fun x=>8 - x.1)
   (0,q',c,r) (hl:=(by repeat (first|exact Lle.nil|refine Lle.cons Pk.a (by first|rfl|simp) ?_))) (fun x hx=>?_) ⟨Nat.zero_le _,by simpa using hlc,hc⟩
  clear hlc hc r c q' ha hcv hrm;obtain⟨k,q',c,r⟩:=x;obtain⟨hk8,hlc,hc⟩:=hx;dsimp only at hk8 hlc hc ⊢;have hbl2:(byC (128::List.replicate (Sha.pad n) 0++(be 8 (8*n)).take k)).length=Sha.pad n+1+k:=by rw[zh];simp;omega
  repeat (first|refine Tw ?_|(refine Tm ?_;intro _)|exact Tz)
  by_cases hk:k<8
  ·refine WC.dT rfl (by omega) ?_;have hm:IntKind.i64.wrap (8*((k:Nat):Int))=((8*k:Nat):Int):=zr (by omega) (by omega) (by omega);have hsb:IntKind.i64.wrap (56 - ((8*k:Nat):Int))=((56 - 8*k:Nat):Int):=zr (by omega) (by omega) (by omega);have hk1:IntKind.i64.wrap (((k:Nat):Int)+1)=((k+1:Nat):Int):=zr (by omega) (by omega) (by omega);have hgt:(be 8 (8*n)).take (k+1)=(be 8 (8*n)).take k++[8*n / 2 ^ (8*(7 - k))%256]:=by
    rw[List.take_add_one,aaz hk,show 8 - 1 - k=7 - k by omega];rfl
   have hbk:byC (128::List.replicate (Sha.pad n) 0++(be 8 (8*n)).take (k+1))=byC (128::List.replicate (Sha.pad n) 0++(be 8 (8*n)).take k)++[.int .u8 ((8*n / 2 ^ (8*(7 - k))%256:Nat):Int)]:=by
    rw[hgt,← List.append_assoc,zZ];rfl
   repeat (first|refine WO.does (vg rfl rfl hm) ?_|refine WO.does (zH rfl rfl hsb) ?_|refine WO.does (vB rfl rfl (by omega) (hsh k hk)) ?_|refine WO.does (zN rfl (fN _)) ?_|refine Ta ?_|(refine Tm ?_;intro _)|(refine WO.makes (ze (cs:=[.int .u8 ((8*n / 2 ^ (8*(7 - k))%256:Nat):Int)]) rfl (by decide) rfl) ?_;intro gb)|refine Tc ?_|exact Tz)
   refine WO.appB (m:=1) (l:=Sha.pad n+1+(k+1)) rfl rfl hbl2 hlc (Pk.there Pk.here) (Rds.own (m:=1) Hs.here rfl) rfl rfl (by omega) (by omega) hc (by omega) (by decide) (by decide) (fun q2 c2 r2 hr2 hc2=>?_)
   repeat (first|refine WO.does (zl rfl rfl hk1) ?_|refine Ta ?_|(refine Tm ?_;intro _)|refine Tc ?_|exact Tz)
   exact WX.metI (k+1,q2,c2,r2) (hl:=(by repeat (first|exact Lle.nil|refine Lle.cons Pk.a (by first|rfl|(rw[hbk];rfl)) ?_))) (hs:=⟨⟨by show k+1≤8;omega,by dsimp only;rw[hbk];exact hr2,hc2⟩,by show 8 - (k+1)<8 - k;omega⟩)
  ·have hk8:k=8:=by omega
   subst hk8;have htk:(be 8 (8*n)).take 8=be 8 (8*n):=List.take_of_length_le (by rw[h88];omega);refine WC.dF rfl (by omega) ?_;have hW:=jE g3 c (some ⟨q',0,none⟩) s buf n (li n) (abK n) hs8 hsl hb64 hbl (by rw[y5];omega);have hHw:=kw.wr (li n).length (Nat.le_refl _) hH (X:=li n);have hT:Sha.sum m=Sha.outs (wr s buf n (li n)).1:=by
    unfold Sha.sum;have:=hH.n;rw[aa1 (by omega),← this,← hHw.s]
   have hs8' : (wr s buf n (li n)).1.length=8:=by rw[hHw.s];exact uf rfl _
   have hb64':=hHw.len;rw[y5] at hW;rw[hT];have hrow:byC (128::List.replicate (Sha.pad n) 0++(be 8 (8*n)).take 8)=byC (li n):=by rw[htk];rfl
   rw[hrow] at hlc ⊢;clear hHw hT hH hrow htk hsh;generalize (wr s buf n (li n)).1=s' at *;generalize (wr s buf n (li n)).2.1=b' at *;generalize (wr s buf n (li n)).2.2=n' at *;have hl74':=y4 (n:=n') hs8' hb64';refine WC.ndp (fun hnd=>?_);have hne:q'≠g3:=by simp at hnd;exact hnd.1.1
   repeat (first|refine Tw ?_|(refine Tm ?_;intro _)|exact Tz)
   refine WO.callM (hc:=hW) rfl (Rp.there Rp.here) (fun w' hm=>⟨some ⟨q',0,none⟩,c,rfl,by rw[← hlc,List.length_append,zh,y5];omega,hc,by rw[zh,y5],.inr ⟨q',0,rfl,hne,((Hs.here).seg hm).sub (k:=0) (m:=Sha.pad n+9) (by unfold cut;rw[List.drop_zero,List.take_append_of_le_length (by rw[zh,y5];omega),List.take_of_length_le (by rw[zh,y5];omega)])⟩⟩) (by decide) ?_ rfl rfl
   repeat (first|refine Tw ?_|(refine Tm ?_;intro _)|exact Tz)
   have hT32:(Sha.outs s').length=32:=by rw[uj,hs8']
   refine WC.loopI (σ:=Nat) (fun i=>i≤32) (fun i=>[(2,pt g2),(3,pt g3),(57,.int .i64 (i:Int))]) (fun i=>[⟨g3,191,vY s' b' n'⟩,⟨g2,60,pad (Sha.outs s') i⟩]) (fun i=>32 - i) 0 (hl:=(by repeat (first|exact Lle.nil|refine Lle.cons Pk.a (by first|rfl|(unfold pad;rw[hT32];rfl)) ?_))) (fun i hi=>?_) (Nat.zero_le _)
   repeat (first|refine Tw ?_|(refine Tm ?_;intro _)|exact Tz)
   by_cases hi2:i<32
   ·refine WC.dT rfl (by omega) ?_;have hT1:=bJ (s:=s') (i:=i) (by omega);have hov:=jw hT1;have hq:IntKind.i64.wrap (((i:Nat):Int).tdiv 4)=((i / 4:Nat):Int):=zr (by rw[Int.tdiv_eq_ediv_of_nonneg (by omega)];omega) (by rw[Int.tdiv_eq_ediv_of_nonneg (by omega)];omega) (by rw[Int.tdiv_eq_ediv_of_nonneg (by omega)];omega);have hr:((i:Nat):Int).tmod 4=((i%4:Nat):Int):=by rw[Int.tmod_eq_emod_of_nonneg (by omega)];omega
    have hm:IntKind.i64.wrap (((i%4:Nat):Int)*8)=((8*(i%4):Nat):Int):=zr (by omega) (by omega) (by omega);have hsb:IntKind.i64.wrap (24 - ((8*(i%4):Nat):Int))=((8*(3 - i%4):Nat):Int):=zr (by omega) (by omega) (by omega);have hi1:IntKind.i64.wrap (((i:Nat):Int)+1)=((i+1:Nat):Int):=zr (by omega) (by omega) (by omega);have hw1:=ad7 (s:=s') (buf:=b') (n:=n') hs8' (show i / 4<8 by omega);have hsh:((s'.getD (i / 4) 0:Nat):Int).fdiv (2 ^ min (((8*(3 - i%4):Nat):Int)).toNat IntKind.u32.bits)=((s'.getD (i / 4) 0 / 2 ^ (8*(3 - i%4)):Nat):Int):=tu (by show 8*(3 - i%4)≤32;omega);have hpl1:(pad (Sha.outs s') i).length=32:=by rw[pR (by omega),hT32]
    generalize s'.getD (i / 4) 0 / 2 ^ (8*(3 - i%4))=vv at *
    repeat (first|refine WO.does (cF rfl rfl (by decide) hq) ?_|refine WO.does (zY (o':=1+i / 4) rfl rfl (by omega) (by omega)) ?_|refine WO.does (zR (hc:=hw1)) ?_|refine WO.does (vw rfl rfl (by decide) hr) ?_|refine WO.does (vg rfl rfl hm) ?_|refine WO.does (zH rfl rfl hsb) ?_|refine WO.does (vB rfl rfl (by omega) hsh) ?_|refine WO.does (zN rfl (fN _)) ?_|refine WO.does (zY (o':=i) rfl rfl (by omega) (by omega)) ?_|refine WO.stores (zC (hc:=hov) (hle:=by rw[hpl1];exact Nat.ble_eq_true_of_le hi2)) ?_|refine WO.does (zl rfl rfl hi1) ?_|refine Ta ?_|(refine Tm ?_;intro _)|refine Tc ?_|exact Tz)
    exact WX.metI (i+1) (hs:=⟨by omega,by omega⟩)
   ·have hi3:i=32:=by omega
    subst hi3;have hpf:pad (Sha.outs s') 32=byC (Sha.outs s'):=by rw[← hT32];exact jk _
    have hbl32:(byC (Sha.outs s')).length=32:=by rw[zh,hT32]
    rw[hpf];refine WC.dF rfl (by omega) ?_
    repeat (first|refine WO.does (zy (vs:=byC (Sha.outs s')) (hc:=zz hbl32) (hl:=hbl32)) ?_|refine WO.stores (zC (vs:=byC (Sha.outs s')) (cs':=byC (Sha.outs s')) (hl:=hbl32) (h1:=zM _) (hc:=z7 rfl) (hle:=by rw[hbl32];rfl)) ?_|refine Ta ?_|(refine Tm ?_;intro _)|refine Tc ?_|exact Tz)
    exact WX.aret1 (hr:=uC (vs:=byC (Sha.outs s')) (hc:=zz hbl32) (hl:=hbl32)) (hp:=rfl)
 ·refine WC.dT rfl (by omega) ?_;have hbk:byC (128::List.replicate (l+1 - 1) 0)=byC (128::List.replicate (l - 1) 0)++[.int .u8 0]:=by
   rw[show l+1 - 1=l - 1+1 by omega,List.replicate_succ',← List.cons_append,zZ];rfl
  repeat (first|refine Ta ?_|(refine Tm ?_;intro _)|(refine WO.makes (ze (cs:=[.int .u8 0]) rfl (by decide) rfl) ?_;intro gb)|refine Tc ?_|exact Tz)
  refine WO.appB (m:=1) (l:=l+1) rfl rfl hbl1 hlc (Pk.there Pk.here) (Rds.own (m:=1) Hs.here rfl) rfl rfl (by omega) (by omega) hc (by omega) (by decide) (by decide) (fun q2 c2 r2 hr2 hc2=>?_)
  repeat (first|refine Tw ?_|(refine Tm ?_;intro _)|exact Tz)
  exact WX.metI (l+1,q2,c2,r2) (hl:=(by repeat (first|exact Lle.nil|refine Lle.cons Pk.a (by first|rfl|(rw[hbk];rfl)) ?_))) (hs:=⟨⟨by show 1≤l+1;omega,by show l+1≤Sha.pad n+1;omega,by dsimp only;rw[hbk];exact hr2,hc2⟩,by show Sha.pad n+1 - (l+1)<Sha.pad n+1 - l;omega⟩)
end Sx
end
end Go.Proofs.YteibfbjpkjkejaaGreatDoor
