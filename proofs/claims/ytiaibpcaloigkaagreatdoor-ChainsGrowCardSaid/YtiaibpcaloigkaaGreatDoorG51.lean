/- Part 51 of the proof. -/
import Derived.Test.YtiaibpcaloigkaaGreatDoorG50
set_option linter.unusedSimpArgs false
set_option linter.unusedVariables false
set_option maxHeartbeats 8000000
namespace Go.Proofs.YtiaibpcaloigkaaGreatDoor
section
open Go Go.RowKit Go.BigFrame
namespace Sx
attribute [local irreducible] DQ WA WC WO WT WX blH yN ddH gnH hOf voH vtS wd
theorem WA.shortG {P:Program} {w0:World} {gs:LN} {n:Nat} {ops:List Oper} {Q:Exit→Act→World→Prop} {K:List (Nat × Value)} {L:List Ent} {S:List Bool} {f:Nat} (Kk:List (Nat × Value)) (S' : List Bool) (f' : Nat) (k:∀ X:Prop,(X→WA P w0 gs n ops Q Kk L S' f')→X→WA P w0 gs n ops Q K L S f) (k2:WA P w0 gs n ops Q Kk L S' f'):WA P w0 gs n ops Q K L S f:=k _ id k2
section
variable {P:Program} {w0:World} {gs:LN} {n:Nat} {ops:List Oper} {Q Q' : Exit→Act→World→Prop} {K:List (Nat × Value)} {L:List Ent}
theorem WA.s1 {S:List Bool} {f:Nat} (i:Nat) {o:Oper} (k:WO P w0 gs n ops (Qk (wpAny P .any ops.toArray Q f (S.set i true).toArray) Q) K L [o]) (ho:nth ops i=some o:=by rfl) (hr:Region.ready .any ops.toArray S.toArray=[i]:=by decide +kernel):WA P w0 gs n ops Q K L S (f+1):=WA.step [i] (vt.cons k vt.nil ho) hr (List.cons_ne_nil _ _)
theorem WO.na {S S' : List Bool} {f i:Nat} (k:WA P w0 gs n ops Q K L S' f) (hS:S.set i true=S':=by rfl):WO P w0 gs n ops (Qk (wpAny P .any ops.toArray Q f (S.set i true).toArray) Q') K L []:=WO.nil (WX.wa k hS)
end
structure GrS where
 i:Nat
 D:List Dt
 X:List Wh
 gc:Nat
 cc:Nat
 Y:List Wh
 go:Nat
 co:Nat
section
variable (p q g h F m:Nat) (N:LP) (D:List Dt)
theorem adx:(hdD p q g h F m N D).length=32:=by
 unfold hdD;split
 ·unfold gnH;exact zI _ _
 ·unfold blH;exact zI _ _
theorem afS:∀ b∈hdD p q g h F m N D,b<256:=by
 unfold hdD;split
 ·unfold gnH;exact yX _ _
 ·unfold blH;exact yX _ _
end
section
variable (p q g h0 a:Nat) (f sec:Int) (pk:Option Addr) (ck:Nat) (ks:LP) (pS:Option Addr) (cS:Nat) (sd:LN)
theorem abj (hp:p<ze) (hq:q<ze) (hg:g<ze) (hh0:h0<ze) (ha:a<ze) (hks:zZ ks)
  (hf1 : -9223372036854775808≤f) (hf2:f≤9223372036854775807) (hs1 : -9223372036854775808≤sec) (hs2:sec≤9223372036854775807) (hsd:∀ x∈sd,x<4294967296) :
  Fn Tryz.prog 4 [csV p q g h0 a f sec (.slice pk ks.length ck),.slice pS sd.length cS] (fun w=>RdF ya (.slice pk ks.length ck) ks w∧RdE jX (.slice pS sd.length cS) sd w∧uY w) (Is (.bool true)):=by
 have hC:=agx p q g h0 a f sec pk ck ks hp hq hg hh0 ha hks hf1 hf2 hs1 hs2;have hL:=ez;refine Fn.enter Tryz.func4 rfl rfl rfl ?_;intro w hw;obtain⟨w1,w2,w4⟩:=hw
 repeat (first|refine Tk ?_|intro _|exact Tz)
 rename_i gZ;refine WO.callsL (hc:=Fn.toL hC) (hp:=.nil) (hR:=fun wx hm=>w1.mod hm.mod) (k:=fun v N hv=>?_);cases hcb:m4 p q g a f sec ks with
 | false =>
  rw[hcb] at hv;obtain⟨cs,rfl,hl,h1⟩:=hv.2 rfl;refine WO.swap ?_;simp only[List.cons_append,List.nil_append]
  repeat (first|refine Tj ?_|intro _|refine WO.acall (hc:=hL) (k:=?_)|refine WO.stores (zo (vs:=cs) (cs':=cs) (hl:=hl) (h1:=h1) (hc:=zC (by rw[hl];rfl)) (hle:=by rw[hl];rfl)) ?_|refine Tc ?_|exact Tz)
  done
 | true =>
 rw[hcb] at hv;obtain⟨gN,cN,rfl,rfl,hNl,hcN⟩:=hv.1 rfl;have hcs:=ef hcb;simp only[List.cons_append,List.nil_append];obtain⟨hn1,hn7,hsq,hf0,hsc1,hfs,_,_⟩:=zS hcs.set;obtain⟨F,rfl⟩ : ∃ F:Nat,f=(F:Int):=⟨f.toNat,by omega⟩;obtain⟨m,rfl⟩ : ∃ m:Nat,sec=(m:Int):=⟨sec.toNat,by omega⟩;have hNl2:=yW p g a ks;have hk7:=hcs.len;have hk0:0<ks.length:=by omega
 have hk0' : ¬ ((ks.length:Nat):Int)=0:=by omega
 rw[hNl2];have h3F:3*F+1≤ks.length∧F≤2:=by
  have hs:=hcs.set;unfold y5 at hs;simp only[Bool.and_eq_true,decide_eq_true_eq] at hs;omega
 obtain⟨h3F,hF2⟩:=h3F;have hNb:zZ (csN p g a ks):=sL hp;have hhb:exN p g a<ze:=ub hp;have hG:=acp p q g (exN p g a) F m (some ⟨gN,0,none⟩) cN (csN p g a ks) hp hq hg hhb hNb Om hcs.set;rw[hNl2] at hG;obtain⟨ah,hah⟩ : ∃ ah,gnH p q g (exN p g a) F m (csN p g a ks)=ah:=⟨_,rfl⟩;have hal:ah.length=32:=by rw[← hah];unfold gnH;exact zI _ _
 have hab:∀ b∈ah,b<256:=by rw[← hah];unfold gnH;exact yX _ _
 rw[hah] at hG
 by_cases hhi:6<sd.length
 ·repeat (first|refine WO.does (zR rfl rfl hk0') ?_|refine WO.does (tc rfl rfl Om) ?_|refine Tj ?_|intro _|refine WO.acall (hc:=hL) (k:=?_)|refine Tc ?_|exact Tz)
  done
 obtain⟨n,hn⟩ : ∃ n,ks.length - F=n:=⟨_,rfl⟩;obtain⟨Qm,hQm⟩ : ∃ Qm,(ks.length+F) / 2+1=Qm:=⟨_,rfl⟩;have hn7' : n≤7:=by omega
 have hm0:0<m:=by omega
 have hNew:=adc p q g (exN p g a) (F:Int) (m:Int) (some ⟨gN,0,none⟩) cN (csN p g a ks) hp hq hg hhb hNb Om Om Om Om Om hcs.set;rw[hNl2] at hNew
 repeat (first|refine WO.does (zR rfl rfl hk0') ?_|refine WO.does (yn rfl rfl Om) ?_|refine Tj ?_|intro _|refine Tc ?_|exact Tz)
 rename_i gS;refine WO.callsL (hc:=Fn.toL hNew) (hp:=.nil) (hR:=fun wx hm=>RdF.ownO (Hs.sg hm) hNl2) (k:=fun v N hv=>?_);obtain⟨P,gK,cK,rfl,rfl⟩:=hv;refine WO.swap ?_;simp only[List.cons_append,List.nil_append]
 repeat (first|refine Tk ?_|intro _|exact Tz)
 refine WO.callsL (hc:=Fn.toL hNew) (hp:=.nil) (hR:=fun wx hm=>RdF.ownO (Hs.sg hm) hNl2) (k:=fun v N hv=>?_);obtain⟨P2,gK2,cK2,rfl,rfl⟩:=hv;refine WO.swap ?_;simp only[List.cons_append,List.nil_append]
 repeat (first|refine WO.does (zA rfl rfl rfl) ?_|refine Tj ?_|intro _|refine Tc ?_|exact Tz)
 refine WC.loopI (σ:=GrS) (fun s=>s.i≤sd.length∧s.D.length=s.i∧ChI s.X s.D∧ChI s.Y s.D∧(0<s.i→s.i≤s.cc∧s.cc<9223372036854775808)∧(0<s.i→s.i≤s.co∧s.co<9223372036854775808))
  (fun s=>[(1,.slice pS sd.length cS),(2,Sx.pt gZ),(5,Sx.pt gS),(7,Sx.pt P),(9,Sx.pt P2),(11,.int .i64 (s.i:Int))])
  (fun s=>⟨gS,36,stC p q g (exN p g a) (F:Int) (m:Int) (AQ gN ks.length cN)⟩::⟨gZ,29,csC p q g h0 a (F:Int) (m:Int) (.slice pk ks.length ck)⟩::⟨gN,105,(csN p g a ks).flatMap ya++mkz (cN - ks.length) (vC 0 0)⟩::(chE p q g (exN p g a) (F:Int) (m:Int) (csN p g a ks) P gK cK  s.gc s.cc s.X++chE p q g (exN p g a) (F:Int) (m:Int) (csN p g a ks) P2 gK2 cK2  s.go s.co s.Y)) (fun s=>sd.length - s.i) ⟨0,[],[],0,0,[],0,0⟩ (fun s hs=>?_) ⟨Nat.zero_le _,rfl,ChI.nil,ChI.nil,fun h=>absurd h Dtt,fun h=>absurd h Dtt⟩
  (hl:=by repeat (first|exact Lle.same|refine Lle.c ?_|refine Lle.skip ?_))
 obtain⟨i,D,X,gc,cc,Y,g2,c2⟩:=s;obtain⟨hi,hDl,hXI,hYI,hr1,hr2⟩:=hs
 try dsimp only at hi hDl hXI hYI hr1 hr2 ⊢
 have hXl:=hXI.len;have hYl:=hYI.len
 by_cases hlt:i<sd.length
 ·obtain⟨sv,hsv⟩ : ∃ x,sd[i]?=some x:=⟨_,List.getElem?_eq_getElem hlt⟩;have hsv32:=hsd sv (List.mem_of_getElem? hsv);have hsv1:sv%1000<1000:=Nat.mod_lt _ Dtt;obtain⟨bS,oS,rfl,_,hsS⟩:=id w2 |>.get hsv
  have hcS:(sd.flatMap jX)[oS+i*1 - oS]?=some (.int .u32 (sv:Int)):=by
   rw[Nat.add_sub_cancel_left];exact vb (j:=0) (ve (k:=1) (fun _ _=>rfl) hsv) rfl
  have hHd:=nl p q g (exN p g a) F m (csN p g a ks) P gK cK gc cc X _ hXI Om hp hq hg hhb hNb Om hcs.set;obtain⟨ahd,hahd⟩ : ∃ x,hdD p q g (exN p g a) F m (csN p g a ks) D=x:=⟨_,rfl⟩;have hahl:ahd.length=32:=by rw[← hahd];exact adx ..
  have hahb:∀ b∈ahd,b<256:=by rw[← hahd];exact afS _ _ _ _ _ _ _ _
  rw[hahd] at hHd;have hMd:=aQ p q g h0 a F m pk ck ks (some ⟨gN,0,none⟩) cN (i+1) ahd sv sv hcs hp hq hg hh0 ha hks Om hahl hsv32 hsv32;rw[hn,hQm] at hMd;have hM1:=Fn.weak hMd (fun _ h=>h) (fun v L h=>dp p q g a F m ks (i+1) ahd sv sv n Qm hn7' h);have hcvi:IntKind.u64.wrap (i:Int)=(i:Int):=u64_in Om Om;have haddi:IntKind.u64.wrap ((i:Int)+1)=((i+1:Nat):Int):=by show ((i:Int)+1)%18446744073709551616=_;omega
  have hadd:IntKind.i64.wrap ((i:Int)+1)=((i+1:Nat):Int):=zl Om Om Om
  repeat (first|refine Tk ?_|intro _|exact Tz)
  refine WC.dT rfl Om ?_
  repeat (first|refine Tk ?_|intro _|exact Tz)
  refine WC.adrawF [18] 21 (k:=?_)
  iterate 3 refine Dx ?_
  refine DQ.acallR (hc:=hHd) (hR:=fun wx hm=>ChR.o hm.t) (k:=?_);refine Dx ?_;refine DQ.does (fun s _=>zr rfl hcvi) Dp.const ?_;refine DQ.does (fun s _=>zi rfl rfl haddi) Dp.const ?_
  iterate 2 refine Dx ?_
  refine DQ.does (fun s _=>zb (o':=oS+i*1) rfl rfl hlt rfl) Dp.const ?_;refine DQ.does (fun s _=>zm (v:=.int .u32 (sv:Int)) (hs:=hsS) (hle:=Nat.le_add_right _ _) (hc:=hcS)) Dp.const ?_
  iterate 2 refine Dx ?_
  refine DQ.does (fun s _=>zb (o':=oS+i*1) rfl rfl hlt rfl) Dp.const ?_;refine DQ.does (fun s _=>zm (v:=.int .u32 (sv:Int)) (hs:=hsS) (hle:=Nat.le_add_right _ _) (hc:=hcS)) Dp.const ?_;refine DQ.callsE (fs:=fun _=>[]) (cs:=fun _=>[]) (R:=fun _ w=>RdF ya (.slice pk ks.length ck) ks w∧RdF ya (AQ gN ks.length cN) (csN p g a ks) w∧uY w) (vf:=fun _ x=>mkV m (i+1) ahd n Qm x) (Nf:=fun _ x=>mkL p q g a F m ks (i+1) sv sv n Qm x) (S:=fun _ x=>n≤x 5) (fun _=>[]) (fun _=>.nil) (fun _=>⟨fun _=>n,Nat.le_refl _⟩) (fun _ _=>hM1) (fun _=>rfl) (fun _=>rfl) (fun _=>rfl) (fun _ _ w hm=>⟨w1.mod hm.mod,RdF.ownO (Hs.sg hm) hNl2,w4.mod hm.mod Sm⟩) Dp.const Dp.const Dp.const ?_
  iterate 2 refine Dx ?_
  repeat (first|refine Da ?_|refine Df ?_)
  refine DQ.anil (k:=?_);intro sx hsx
  try simp only[List.map_cons,List.map_nil,List.cons_append,List.nil_append]
  have hch:n≤sx 15 5:=hsx.2;clear hsx;generalize sx 19 0=gB;generalize sx 20 0=gE;generalize sx 15=X1 at hch ⊢;simp only[mkL,List.map_cons,List.map_nil,List.map_append,List.map_map,Function.comp_def,List.map_id',List.cons_append,List.nil_append,List.append_nil];obtain⟨W1,hW1⟩ : ∃ W,mdW p q g a F m ks (i+1) sv n (fun j=>X1 (10+j))=W:=⟨_,rfl⟩;have kW1:=abJ p q g a F m ks (i+1) sv n hn7' (fun j=>X1 (10+j));have hH1:=afo p q g a F m ks (i+1) sv n (fun j=>X1 (10+j));rw[hW1] at kW1 hH1 ⊢;clear hW1;generalize X1 0=gl;generalize X1 1=cl;generalize X1 2=gs;generalize X1 3=cs;generalize X1 4=gh;generalize X1 5=ch at hch ⊢;generalize X1 6=gv;generalize X1 7=cv;generalize X1 8=go;generalize X1 9=co;obtain⟨HL,hHL⟩ : ∃ HL,mdH p q g a F m ks (i+1) sv n=HL:=⟨_,rfl⟩;rw[hHL] at hH1 ⊢;have hWl:=kW1.len;have hHl:HL.length=n:=by rw[← hH1,List.length_map,hWl]
  have hMr:=fun {wx:World} h=>have h9:=cF p q g a F m ks (i+1) sv (sv%1000) n Qm HL W1 gh ch gv cv go co gl cl gs cs hHl hWl (w:=wx) h;(⟨h9.2.1,h9.2.2.2⟩ : _∧_)
  let b:Mb:=⟨i+1,ahd,sv,HL,W1,gh,ch,gv,cv,go,co,gl,cl,gs,cs⟩
  have hbG:MbG p q g a F m ks n b:=⟨kW1,hH1,hahl,hahb⟩;have hbl:(mbV m n Qm b).length=37:=ut hahl;have hb1:(mbV m n Qm b).all Value.oneCell'=true:=rQ rfl rfl rfl;have hOl:(mbO p q g a F m n b).length=m:=uZ ..;have hOO:∀ X∈mbO p q g a F m n b,X.length=32∧∀ b∈X,b<256:=qW;have hHH:∀ X∈HL,X.length=32∧∀ b∈X,b<256:=fun X hX=>by
   rw[← hH1] at hX;obtain⟨z,_,rfl⟩:=List.mem_map.1 hX;exact⟨vh _ _,qR _ _⟩
  have hWb:=jb (i+1) ahd (some ⟨gh,0,none⟩) (some ⟨go,0,none⟩) ch m HL (mbO p q g a F m n b) hahl (fun X hX=>(hHH X hX).1) (fun X hX=>(hOO X hX).1) Om Om Om Om (AQ gv Qm cv) rfl hahb (fun X hX=>(hHH X hX).2) (fun X hX=>(hOO X hX).2);rw[hHl,hOl] at hWb
  repeat (first|refine WO.stores (zo (vs:=mbV m n Qm b) (cs':=mbV m n Qm b) (hl:=ut hahl) (h1:=rQ rfl rfl rfl) (hc:=zC (by rw[hbl];rfl)) (hle:=by rw[hbl];rfl)) ?_|refine Tj ?_|intro _|refine Tc ?_|exact Tz)
  refine WC.permL (abx (R:=mbM p q g a F m ks n Qm (sv%1000) b) (C:=chE p q g (exN p g a) (F:Int) (m:Int) (csN p g a ks) P gK cK  gc cc X) (O:=chE p q g (exN p g a) (F:Int) (m:Int) (csN p g a ks) P2 gK2 cK2  g2 c2 Y)) ?_;refine WC.all ?_;refine WA.shortG [(87,Sx.pt P),(88,.agg (mbV m n Qm b).toArray),(89,.agg (mbE n b).toArray),(5,Sx.pt gS),(7,Sx.pt P),(9,Sx.pt P2),(11,.int .i64 (i:Int)),(12,Sx.pt gB),(13,Sx.pt gE),(1,.slice (some ⟨bS,oS,none⟩) sd.length cS),(2,Sx.pt gZ)] (bt 19 7) 16 (fun XX hXX key=>?_) ?_
  ·refine WA.step [0,1,2] (vt.cons ?_ (vt.cons ?_ (vt.cons ?_ vt.nil)))
   ·refine Tw ?_;refine WO.na ?_;refine WA.step [1,2] (vt.cons ?_ (vt.cons ?_ vt.nil))
    ·refine WO.does (zw (vs:=mbV m n Qm b) (hc:=zt hbl) (hl:=hbl)) ?_;refine WO.na ?_;refine WA.s1 2 ?_;refine Tw ?_;refine WO.na ?_;exact WA.less _ _ (hXX key) (hl:=Lle.same)
    ·refine Tw ?_;refine WO.na ?_;refine WA.s1 1 ?_;refine WO.does (zw (vs:=mbV m n Qm b) (hc:=zt hbl) (hl:=hbl)) ?_;refine WO.na ?_;exact WA.less _ _ (hXX key) (hl:=Lle.same)
   ·refine WO.does (zw (vs:=mbV m n Qm b) (hc:=zt hbl) (hl:=hbl)) ?_;refine WO.na ?_;refine WA.step [0,2] (vt.cons ?_ (vt.cons ?_ vt.nil))
    ·refine Tw ?_;refine WO.na ?_;refine WA.s1 2 ?_;refine Tw ?_;refine WO.na ?_;exact WA.less _ _ (hXX key) (hl:=Lle.same)
    ·refine Tw ?_;refine WO.na ?_;refine WA.s1 0 ?_;refine Tw ?_;refine WO.na ?_;exact WA.less _ _ (hXX key) (hl:=Lle.same)
   ·refine Tw ?_;refine WO.na ?_;refine WA.step [0,1] (vt.cons ?_ (vt.cons ?_ vt.nil))
    ·refine Tw ?_;refine WO.na ?_;refine WA.s1 1 ?_;refine WO.does (zw (vs:=mbV m n Qm b) (hc:=zt hbl) (hl:=hbl)) ?_;refine WO.na ?_;exact WA.less _ _ (hXX key) (hl:=Lle.same)
    ·refine WO.does (zw (vs:=mbV m n Qm b) (hc:=zt hbl) (hl:=hbl)) ?_;refine WO.na ?_;refine WA.s1 0 ?_;refine Tw ?_;refine WO.na ?_;exact WA.less _ _ (hXX key) (hl:=Lle.same)
  refine WA.s1 3 ?_;refine WO.callsQ (hh:=w4) (hp:=List.perm_append_comm (l₁:=[_,_,_,_,_]++(mbM p q g a F m ks n Qm (sv%1000) b++chE p q g (exN p g a) (F:Int) (m:Int) (csN p g a ks) P2 gK2 cK2  g2 c2 Y)) (l₂:=chE p q g (exN p g a) (F:Int) (m:Int) (csN p g a ks) P gK cK  gc cc X)) (hc:=fun h0=>cJ p q g a F m ks (i+1) ahd sv (sv%1000) n Qm HL W1 gh ch gv cv go co gl cl gs cs P gK cK gc cc X _ _ hcs hp hq hg Om hahl hahb hsv1 h3F hn hQm kW1 hH1 Om Om (by rw[hXl,hDl];exact hr1) (fun x hx=>(hXI.ok x hx).al) hHd (fun w he=>ChR.o (fun e h=>he e (List.mem_append_left _ h))) (fun e he=>List.mem_append_right _ (List.mem_append_left _ he)) h0) (k:=fun v T' hv=>?_);obtain⟨rfl,gc2,cc2,y,rfl,hyI,hyD,r5,r6⟩:=hv;have hyC:MbC p q g a F m ks n Qm (sv%1000) b y:=hyD;obtain⟨hyS,hyG⟩:=sG p q g a F m ks n Qm (sv%1000) b y hbG hyC (by show i+1<_;omega) hcs hp hq hsv1 h3F hn hQm hyI;have hXI2:ChI (X++[y]) (D++[(nC p q g a F m n) b]):=hXI.snoc (by
   unfold afc nC;rw[hyC.ep,hyC.ah,hyC.H,hyC.O]) hyG
  have hXl2:(X++[y]).length=i+1:=by rw[List.length_append,hXl,hDl];rfl
  have hDl2:(D++[(nC p q g a F m n) b]).length=i+1:=by rw[List.length_append,hDl];rfl
  rw[hXl,hDl] at r5;have hHd2:=nl p q g (exN p g a) F m (csN p g a ks) P gK cK gc2 cc2 (X++[y]) _ hXI2 Om hp hq hg hhb hNb Om hcs.set;rw[jM] at hHd2;have hLn2:=Fn.weak (aeT p q g (exN p g a) (F:Int) (m:Int) (AQ gK (csN p g a ks).length cK) P gc2 cc2 (X++[y]).length) (fun w (h:ChR p q g (exN p g a) (F:Int) (m:Int) (csN p g a ks) P gK cK gc2 cc2 (X++[y]) w)=>h.c) (fun _ _ h=>h);rw[hXl2] at hLn2;obtain⟨HN,hHN⟩ : ∃ x,blH (i+1) ahd HL (mbO p q g a F m n b)=x:=⟨_,rfl⟩;rw[show blH ((nC p q g a F m n) b).ep ((nC p q g a F m n) b).ah ((nC p q g a F m n) b).HL ((nC p q g a F m n) b).OL=HN from hHN] at hHd2;rw[hHN] at hWb;have hHNl:HN.length=32:=by rw[← hHN];unfold blH;exact zI _ _
  have hHNb:∀ b∈HN,b<256:=by rw[← hHN];unfold blH;exact yX _ _
  refine WO.swap ?_;simp only[List.cons_append,List.nil_append];refine WO.na ?_;refine WA.s1 4 ?_;refine WO.does (zA rfl rfl rfl) ?_;refine WO.na ?_;refine WA.s1 5 ?_;refine Tw ?_;refine WO.na ?_;refine WA.shortG [(92,.bool false),(94,.int .i64 ((i+1:Nat):Int)),(96,.int .i64 ((i+1:Nat):Int)),(5,Sx.pt gS),(7,Sx.pt P),(9,Sx.pt P2),(11,.int .i64 (i:Int)),(12,Sx.pt gB),(13,Sx.pt gE),(1,.slice (some ⟨bS,oS,none⟩) sd.length cS),(2,Sx.pt gZ)] (bt 19 1023) 9 (fun XX hXX key=>?_) ?_
  ·refine WA.step [6,8] (vt.cons ?_ (vt.cons ?_ vt.nil))
   ·refine Tw ?_;refine WO.na ?_;refine WA.step [7,8] (vt.cons ?_ (vt.cons ?_ vt.nil))
    ·refine WO.acallR (hc:=hLn2) (hR:=fun wx hm=>ChR.o hm.t) (k:=?_);refine WO.na ?_;refine WA.s1 8 ?_;refine Tw ?_;refine WO.na ?_;refine WA.s1 9 ?_;refine WO.does (zi rfl rfl hadd) ?_;refine WO.na ?_;exact WA.less _ _ (hXX key) (hl:=Lle.same)
    ·refine Tw ?_;refine WO.na ?_;refine WA.step [7,9] (vt.cons ?_ (vt.cons ?_ vt.nil))
     ·refine WO.acallR (hc:=hLn2) (hR:=fun wx hm=>ChR.o hm.t) (k:=?_);refine WO.na ?_;refine WA.s1 9 ?_;refine WO.does (zi rfl rfl hadd) ?_;refine WO.na ?_;exact WA.less _ _ (hXX key) (hl:=Lle.same)
     ·refine WO.does (zi rfl rfl hadd) ?_;refine WO.na ?_;refine WA.s1 7 ?_;refine WO.acallR (hc:=hLn2) (hR:=fun wx hm=>ChR.o hm.t) (k:=?_);refine WO.na ?_;exact WA.less _ _ (hXX key) (hl:=Lle.same)
   ·refine Tw ?_;refine WO.na ?_;refine WA.step [6,9] (vt.cons ?_ (vt.cons ?_ vt.nil))
    ·refine Tw ?_;refine WO.na ?_;refine WA.step [7,9] (vt.cons ?_ (vt.cons ?_ vt.nil))
     ·refine WO.acallR (hc:=hLn2) (hR:=fun wx hm=>ChR.o hm.t) (k:=?_);refine WO.na ?_;refine WA.s1 9 ?_;refine WO.does (zi rfl rfl hadd) ?_;refine WO.na ?_;exact WA.less _ _ (hXX key) (hl:=Lle.same)
     ·refine WO.does (zi rfl rfl hadd) ?_;refine WO.na ?_;refine WA.s1 7 ?_;refine WO.acallR (hc:=hLn2) (hR:=fun wx hm=>ChR.o hm.t) (k:=?_);refine WO.na ?_;exact WA.less _ _ (hXX key) (hl:=Lle.same)
    ·refine WO.does (zi rfl rfl hadd) ?_;refine WO.na ?_;refine WA.s1 6 ?_;refine Tw ?_;refine WO.na ?_;refine WA.s1 7 ?_;refine WO.acallR (hc:=hLn2) (hR:=fun wx hm=>ChR.o hm.t) (k:=?_);refine WO.na ?_;exact WA.less _ _ (hXX key) (hl:=Lle.same)
  refine WA.s1 10 ?_;refine WO.does (zA rfl rfl rfl) ?_;refine WO.na ?_;refine WA.s1 11 ?_;refine Tw ?_;refine WO.na ?_;refine WA.s1 12 ?_;refine Tw ?_;refine WO.na ?_;refine WA.shortG [(99,.bool false),(101,.agg (byC HN).toArray),(103,.agg (byC HN).toArray),(5,Sx.pt gS),(7,Sx.pt P),(9,Sx.pt P2),(11,.int .i64 (i:Int)),(12,Sx.pt gB),(13,Sx.pt gE),(1,.slice (some ⟨bS,oS,none⟩) sd.length cS),(2,Sx.pt gZ)] (bt 19 131071) 2 (fun XX hXX key=>?_) ?_
  ·refine WA.step [13,15] (vt.cons ?_ (vt.cons ?_ vt.nil))
   ·refine Tw ?_;refine WO.na ?_;refine WA.step [14,15] (vt.cons ?_ (vt.cons ?_ vt.nil))
    ·refine WO.acallR (hc:=hHd2) (hR:=fun wx hm=>ChR.o hm.t) (k:=?_);refine WO.na ?_;refine WA.s1 15 ?_;refine WO.does (zw (vs:=mbV m n Qm b) (hc:=zt hbl) (hl:=hbl)) ?_;refine WO.na ?_;refine WA.s1 16 ?_;refine WO.acallR (hc:=hWb) (hR:=fun wx hm=>hMr hm.t) (k:=?_);refine WO.na ?_;exact WA.less _ _ (hXX key) (hl:=Lle.same)
    ·refine WO.does (zw (vs:=mbV m n Qm b) (hc:=zt hbl) (hl:=hbl)) ?_;refine WO.na ?_;refine WA.s1 14 ?_;refine WO.acallR (hc:=hHd2) (hR:=fun wx hm=>ChR.o hm.t) (k:=?_);refine WO.na ?_;refine WA.s1 16 ?_;refine WO.acallR (hc:=hWb) (hR:=fun wx hm=>hMr hm.t) (k:=?_);refine WO.na ?_;exact WA.less _ _ (hXX key) (hl:=Lle.same)
   ·refine WO.does (zw (vs:=mbV m n Qm b) (hc:=zt hbl) (hl:=hbl)) ?_;refine WO.na ?_;refine WA.s1 13 ?_;refine Tw ?_;refine WO.na ?_;refine WA.s1 14 ?_;refine WO.acallR (hc:=hHd2) (hR:=fun wx hm=>ChR.o hm.t) (k:=?_);refine WO.na ?_;refine WA.s1 16 ?_;refine WO.acallR (hc:=hWb) (hR:=fun wx hm=>hMr hm.t) (k:=?_);refine WO.na ?_;exact WA.less _ _ (hXX key) (hl:=Lle.same)
  refine WA.s1 17 ?_;refine WO.does (ux hHNb hHNb hHNl hHNl rfl rfl (show (!decide (HN=HN))=false by simp)) ?_;refine WO.na ?_;refine WA.s1 18 ?_;refine Tw ?_;refine WO.na ?_;refine WA.done ?_
  repeat (first|refine WO.does (zr rfl hcvi) ?_|refine WO.does (zi rfl rfl haddi) ?_|refine Tj ?_|intro _|refine Tc ?_|exact Tz)
  have hyM:∀ e∈whE y,e∈chE p q g (exN p g a) (F:Int) (m:Int) (csN p g a ks) P gK cK  gc2 cc2 (X++[y]):=fun e he=>by
   unfold chE;exact List.mem_cons_of_mem _ (List.mem_cons_of_mem _ (List.mem_append_right _ (List.mem_flatMap.2 ⟨y,List.mem_append_right _ (List.mem_cons_self ..),he⟩)))
  have hyi:(X++[y])[i]?=some y:=by
   rw[List.getElem?_append_right Om,show i - X.length=0 from by omega];rfl
  have hBk:=e9 p q g (exN p g a) (F:Int) (m:Int) (csN p g a ks) P gK cK gc2 cc2 (X++[y]) hXI2.ok Om y i hyi hyS;refine WO.callsL (hc:=Fn.toL hBk) (hp:=.nil) (hR:=fun wx hm=>⟨ChR.o hm.t,BkR.of hyI (fun e he=>(show ∀ e∈chE p q g (exN p g a) (F:Int) (m:Int) (csN p g a ks) P gK cK  gc2 cc2 (X++[y]),e.ok wx from hm.t) e (hyM e he))⟩) (k:=fun v N hv=>?_);obtain⟨z,hzI,hzD,rfl,rfl⟩:=hv;have hzM:MbC p q g a F m ks n Qm (sv%1000) b z:=⟨hzD.ep.trans hyC.ep,hzD.ah.trans hyC.ah,hzD.H.trans hyC.H,hzD.V.trans hyC.V,hzD.O.trans hyC.O,hzD.T.trans hyC.T,hzD.S.trans hyC.S⟩;have hzbl:(whB z).length=37:=ut hzI.al;have hzb1:(whB z).all Value.oneCell'=true:=rQ rfl rfl rfl
  repeat (first|refine WO.stores (zo (vs:=whB z) (cs':=whB z) (hl:=hzbl) (h1:=hzb1) (hc:=zC (by rw[hzbl];rfl)) (hle:=by rw[hzbl];rfl)) ?_|refine WO.stores (zo (vs:=whF z) (cs':=whF z)) ?_|refine WO.does (zA rfl rfl rfl) ?_|refine WO.does (zw (vs:=whB z) (hc:=zt hzbl) (hl:=hzbl)) ?_|refine Tj ?_|intro _|refine Tc ?_|exact Tz)
  refine WO.permL (aaK (Z:=whE z) (R:=mbM p q g a F m ks n Qm (sv%1000) b) (C:=chE p q g (exN p g a) (F:Int) (m:Int) (csN p g a ks) P gK cK  gc2 cc2 (X++[y])) (O:=chE p q g (exN p g a) (F:Int) (m:Int) (csN p g a ks) P2 gK2 cK2  g2 c2 Y)) ?_;refine WO.callsQ (hh:=w4) (hp:=List.perm_append_comm (l₁:=[_,_,_,_,_,_,_]++(whE z++(mbM p q g a F m ks n Qm (sv%1000) b++chE p q g (exN p g a) (F:Int) (m:Int) (csN p g a ks) P gK cK  gc2 cc2 (X++[y])))) (l₂:=chE p q g (exN p g a) (F:Int) (m:Int) (csN p g a ks) P2 gK2 cK2  g2 c2 Y)) (hc:=fun h0=>adg p q g a F m ks n Qm (sv%1000) P2 gK2 cK2 g2 c2 Y D _ b z hbG hzI hzM hYI hahd.symm (by show i+1=_;omega) Om (by rw[hDl];exact hr2) hcs hp hq hg hsv1 h3F hn hQm (fun e he=>List.mem_append_right _ (List.mem_append_left _ he)) h0) (k:=fun v T' hv=>?_);obtain⟨rfl,g3,c3,y2,rfl,hYI2,r7,r8⟩:=hv;rw[hDl] at r7;have hHd3:=nl p q g (exN p g a) F m (csN p g a ks) P2 gK2 cK2 g3 c3 (Y++[y2]) _ hYI2 Om hp hq hg hhb hNb Om hcs.set;rw[jM,show blH ((nC p q g a F m n) b).ep ((nC p q g a F m n) b).ah ((nC p q g a F m n) b).HL ((nC p q g a F m n) b).OL=HN from hHN] at hHd3;refine WO.swap ?_;simp only[List.cons_append,List.nil_append]
  repeat (first|refine WO.does (zA rfl rfl rfl) ?_|refine WO.acallR (hc:=hHd3) (hR:=fun wx hm=>ChR.o hm.t) (k:=?_)|refine WO.acallR (hc:=hHd2) (hR:=fun wx hm=>ChR.o hm.t) (k:=?_)|refine WO.does (ux hHNb hHNb hHNl hHNl rfl rfl (show (!decide (HN=HN))=false by simp)) ?_|refine Tj ?_|intro _|refine Tc ?_|exact Tz)
  refine WC.permL (aaU (Z:=whE z) (M:=mdB W1) (C:=chE p q g (exN p g a) (F:Int) (m:Int) (csN p g a ks) P gK cK  gc2 cc2 (X++[y])) (O:=chE p q g (exN p g a) (F:Int) (m:Int) (csN p g a ks) P2 gK2 cK2  g3 c3 (Y++[y2]))) ?_;have him:i*m≤25:=Nat.le_trans (Nat.mul_le_mul (show i≤5 by omega) (show m≤5 by omega)) Dtt;have hmul:IntKind.i64.wrap ((i:Int)*(m:Int))=((i*m:Nat):Int):=by
   rw[← Int.natCast_mul];exact i64_in Om Om
  refine WC.loopI (σ:=Nat) (fun s=>s≤m) (fun s=>[(1,.slice (some ⟨bS,oS,none⟩) sd.length cS),(2,Sx.pt gZ),(5,Sx.pt gS),(7,Sx.pt P),(9,Sx.pt P2),(11,.int .i64 (i:Int)),(12,Sx.pt gB),(17,.int .i64 (s:Int))])
   (fun _=>⟨gS,36,stC p q g (exN p g a) (F:Int) (m:Int) (AQ gN ks.length cN)⟩::⟨gZ,29,csC p q g h0 a (F:Int) (m:Int) (.slice pk ks.length ck)⟩::⟨gN,105,(csN p g a ks).flatMap ya++mkz (cN - ks.length) (vC 0 0)⟩::⟨gB,75,mbV m n Qm b⟩::⟨go,70,(mbO p q g a F m n b).flatMap byC++mkz (co - m) hzC⟩::(chE p q g (exN p g a) (F:Int) (m:Int) (csN p g a ks) P gK cK  gc2 cc2 (X++[y])++chE p q g (exN p g a) (F:Int) (m:Int) (csN p g a ks) P2 gK2 cK2  g3 c3 (Y++[y2]))) (fun s=>m - s) 0 (fun r hr0=>?_) (Nat.zero_le _) (hl:=Lle.left)
  ·try dsimp only at hr0 ⊢
   by_cases hlr:r<m
   ·have hadd1:IntKind.i64.wrap (((i*m:Nat):Int)+(r:Int))=((i*m+r:Nat):Int):=zl Om Om Om;have haddr:IntKind.i64.wrap ((r:Int)+1)=((r+1:Nat):Int):=zl Om Om Om;have hcvr:IntKind.u64.wrap ((i*m+r:Nat):Int)=((i*m+r:Nat):Int):=u64_in Om Om;obtain⟨HS,hHS⟩ : ∃ x,(mbO p q g a F m n b)[r]?=some x:=⟨_,List.getElem?_eq_getElem Om⟩;obtain⟨hSl,hSb⟩:=hOO HS (List.mem_of_getElem? hHS);have hsl:(byC HS).length=32:=by rw[zd];exact hSl
    have hDi:(D++[(nC p q g a F m n) b])[i]?=some ((nC p q g a F m n) b):=by
     rw[List.getElem?_append_right Om,show i - D.length=0 from by omega];rfl
    have hV1:=acv p q g (exN p g a) F m (csN p g a ks) P gK cK gc2 cc2 (X++[y]) _ hXI2 Om hm0 Om ((nC p q g a F m n) b) (i*m+r) i r HS rfl hlr hDi hOl hHS;have hV2:=acv p q g (exN p g a) F m (csN p g a ks) P2 gK2 cK2 g3 c3 (Y++[y2]) _ hYI2 Om hm0 Om ((nC p q g a F m n) b) (i*m+r) i r HS rfl hlr hDi hOl hHS;have hcH:cut ((mbO p q g a F m n b).flatMap byC++mkz (co - m) hzC) (r*32) 32=byC HS:=ul (fun X hX=>by rw[zd,(hOO X hX).1]) hHS
    repeat (first|refine Tk ?_|intro _|exact Tz)
    refine WC.dT rfl Om ?_
    repeat (first|refine WO.does (ym rfl rfl hmul) ?_|refine WO.does (zi rfl rfl hadd1) ?_|refine WO.does (zr rfl hcvr) ?_|refine WO.acallR (hc:=hV1) (hR:=fun wx hm=>ChR.o hm.t) (k:=?_)|refine WO.stores (zo (vs:=byC HS) (cs':=byC HS) (hl:=hsl) (h1:=zM HS) (hc:=zC (by rw[hsl];rfl)) (hle:=by rw[hsl];rfl)) ?_|refine WO.acallR (hc:=hV2) (hR:=fun wx hm=>ChR.o hm.t) (k:=?_)|refine Tj ?_|intro _|refine Tc ?_|exact Tz)
    refine WC.adraw 20 (k:=?_)
    iterate 20 (first|refine DQ.does (fun s _=>zA rfl rfl rfl) Dp.const ?_|refine DQ.does (fun s _=>zw (vs:=byC HS) (hc:=zt hsl) (hl:=hsl)) Dp.const ?_|refine DQ.does (fun s _=>zx (hc:=ny hahl 3)) Dp.const ?_|refine DQ.does (fun s _=>zb (o':=r*32) rfl rfl hlr (Nat.zero_add _)) Dp.const ?_|refine DQ.does (fun s _=>zw (vs:=byC HS) (hc:=hcH) (hl:=hsl)) Dp.const ?_|refine DQ.does (fun s _=>ux hSb hSb hSl hSl rfl rfl (show (!decide (HS=HS))=false by simp)) Dp.const ?_|refine Da ?_|refine Dc ?_)
    refine DQ.anil (k:=?_);intro sx _
    repeat (first|refine WO.does (zi rfl rfl haddr) ?_|refine Tj ?_|intro _|refine Tc ?_|exact Tz)
    exact WX.metI (r+1) (hl:=by repeat (first|exact Lle.same|refine Lle.c ?_|refine Lle.skip ?_)) (hs:=⟨by show r+1≤m;omega,by show m - (r+1)<m - r;omega⟩)
   obtain rfl:m=r:=by omega
   repeat (first|refine Tk ?_|intro _|exact Tz)
   refine WC.dF rfl Om ?_
   repeat (first|refine WO.does (zi rfl rfl hadd) ?_|refine Tj ?_|intro _|refine Tc ?_|exact Tz)
   exact WX.metI ⟨i+1,D++[(nC p q g a F m n) b],X++[y],gc2,cc2,Y++[y2],g3,c3⟩ (hl:=by repeat (first|exact Lle.same|refine Lle.c ?_|refine Lle.skip ?_)) (hs:=⟨⟨by show i+1≤sd.length;omega,hDl2,hXI2,hYI2,fun _=>⟨r5,r6⟩,fun _=>⟨r7,r8⟩⟩,by show sd.length - (i+1)<sd.length - i;omega⟩)
 obtain rfl:sd.length=i:=by omega
 clear hlt;have him:sd.length*m≤30:=Nat.le_trans (Nat.mul_le_mul (show sd.length≤6 by omega) (show m≤5 by omega)) Dtt;have hmulF:IntKind.i64.wrap ((sd.length:Int)*(m:Int))=((sd.length*m:Nat):Int):=by
  rw[← Int.natCast_mul];exact i64_in Om Om
 have hcvF:IntKind.u64.wrap ((sd.length*m:Nat):Int)=((sd.length*m:Nat):Int):=u64_in Om Om;have hmulL:IntKind.i64.wrap ((16:Int)*(m:Int))=((16*m:Nat):Int):=by
  rw[show (16:Int)*(m:Int)=((16*m:Nat):Int) from by omega];exact i64_in Om Om
 have hcvL:IntKind.u64.wrap ((16*m:Nat):Int)=((16*m:Nat):Int):=u64_in Om Om;have hY:=fb p q g (exN p g a) (F:Int) (m:Int) (csN p g a ks) P gK cK gc cc X Om m rfl hm0 Om (sd.length*m) sd.length 0 Om hm0 Om Om;have hLm:=fF p q g (exN p g a) (F:Int) (m:Int) (csN p g a ks) P gK cK gc cc X.length m rfl Om (16*m) (Nat.le_refl _);have hbz:(byC (List.replicate 32 0)).length=32:=rfl
 repeat (first|refine Tk ?_|intro _|exact Tz)
 refine WC.dF rfl Om ?_
 repeat (first|refine WO.does (ym rfl rfl hmulF) ?_|refine WO.does (ym rfl rfl hmulL) ?_|refine WO.does (zr rfl hcvF) ?_|refine WO.does (zr rfl hcvL) ?_|refine WO.acallR (hc:=hY) (hR:=fun wx hm=>(ChR.o hm.t).c) (k:=?_)|refine WO.acallR (hc:=hLm) (hR:=fun wx hm=>(ChR.o hm.t).c) (k:=?_)|refine WO.stores (zo (vs:=byC (List.replicate 32 0)) (cs':=byC (List.replicate 32 0)) (hl:=hbz) (h1:=zM _) (hc:=zC (by rw[hbz];rfl)) (hle:=by rw[hbz];rfl)) ?_|refine WO.does (zO rfl rfl rfl) ?_|refine Tj ?_|intro _|refine WO.acall (hc:=hL) (k:=?_)|refine Tc ?_|exact Tz)
 done
end
end Sx
end
end Go.Proofs.YtiaibpcaloigkaaGreatDoor
