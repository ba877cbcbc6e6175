/- Part 51 of the proof. -/
import Derived.Test.YtiaibpcaloigkaaGreatDoorF50
set_option linter.unusedSimpArgs false
set_option linter.unusedVariables false
set_option maxHeartbeats 8000000
namespace Go.Proofs.YtiaibpcaloigkaaGreatDoor
section
open Go Go.RowKit Go.BigFrame
namespace Sx
attribute [local irreducible] DQ WA WC WO WT WX blH yX ddH gnH hOf voH vtS wd
abbrev evZ:List Value:=[.slice none 0 0,.slice none 0 0,.slice none 0 0]
theorem ada {cs:LV} (hl:cs.length=37):ue (fun i=>some (i*bkZ.length,bkZ.length)) (mkz 1 bkZ) [(0,.agg cs.toArray)]=some cs:=by
 rw[yr (off:=0) (size:=37) (vs:=cs) rfl (by simp[cellsOf]) hl rfl];show some (over (bkZ++[]) 0 cs)=_;rw[u7 (by rw[hl];rfl),List.append_nil]
theorem ew {e1 e2 s1 s2 s3:Ent} {R l m M C:List Ent}:(e1::e2::(R++(s1::s2::s3::((l++(m++M))++C)))).Perm (e1::e2::s1::s2::s3::((l++(m++(M++R)))++C)):=by
 classical
 rw[List.perm_iff_count];intro x;simp only[List.count_cons,List.count_append,List.count_nil];omega
theorem ct {r1 r2 b1 b2 e1 e2 s1 s2 s3:Ent} {M C:List Ent}:(r2::b2::r1::b1::e1::e2::s1::s2::s3::(M++C)).Perm ((s1::s2::s3::(([r1]++([r2]++M))++C))++[b2,b1,e1,e2]):=by
 classical
 rw[List.perm_iff_count];intro x;simp only[List.count_cons,List.count_append,List.count_nil];omega
theorem hL6 {a b c d e f:Ent} {l r C:List Ent}:a::b::c::d::e::f::((l++r)++C)=[a,b,c,d,e,f]++(l++(r++C)):=by rw[List.append_assoc];rfl
theorem hL8 {a b c d e f g h:Ent} {l r C:List Ent}:a::b::c::d::e::f::g::h::((l++r)++C)=[a,b,c,d,e,f,g,h]++(l++(r++C)):=by rw[List.append_assoc];rfl
structure CuS where
 i:Nat
 BL:List Mb
 X:List Wh
 gc:Nat
 cc:Nat
 lg:Nat
 lc:Nat
 mg:Nat
 mc:Nat
section
variable (p q g a F m:Nat) (ks:LP) (n Qm:Nat)
def BlI (BL:List Mb):Prop:=∀ (j:Nat) (b:Mb),BL[j]?=some b→MbG p q g a F m ks n b∧b.ep=j+1∧b.ah=hdD p q g (exN p g a) F m (csN p g a ks) ((BL.take j).map (lC p q g a F m n))
theorem BlI.snoc {BL:List Mb} {b:Mb} (h:BlI p q g a F m ks n BL) (h1:MbG p q g a F m ks n b) (h2:b.ep=BL.length+1) (h3:b.ah=hdD p q g (exN p g a) F m (csN p g a ks) (BL.map (lC p q g a F m n))):BlI p q g a F m ks n (BL++[b]):=fun j x hx=>by
 rcases Nat.lt_trichotomy j BL.length with hj|hj|hj
 ·rw[List.getElem?_append_left hj] at hx;obtain⟨g1,g2,g3⟩:=h j x hx;exact⟨g1,g2,by rw[List.take_append_of_le_length Om];exact g3⟩
 ·subst hj;rw[List.getElem?_append_right (Nat.le_refl _),Nat.sub_self] at hx;cases hx;exact⟨h1,h2,by rw[List.take_left'];exact h3;rfl⟩
 ·rw[List.getElem?_eq_none (by rw[List.length_append];simp;omega)] at hx;cases hx
theorem adR {BL:List Mb} (h:∀ b∈BL,b.ah.length=32):(BL.flatMap (mbV m n Qm)).length=BL.length*37:=yJ fun b hb=>y8 (h b hb)
theorem adU {BL:List Mb}:(BL.flatMap (mbE n)).length=BL.length*3:=yJ fun _ _=>rfl
variable (p q g h F m:Nat) (N:LP) (D:List Dt)
theorem aet:(hdD p q g h F m N D).length=32:=by
 unfold hdD;split
 ·unfold gnH;exact zJ _ _
 ·unfold blH;exact zJ _ _
theorem afe:∀ b∈hdD p q g h F m N D,b<256:=by
 unfold hdD;split
 ·unfold gnH;exact vx _ _
 ·unfold blH;exact vx _ _
end
section
variable (p q g h0 a:Nat) (f sec:Int) (pk:Option Addr) (ck:Nat) (ks:LP) (pS:Option Addr) (cS:Nat) (sd:LN) (t:Nat)
theorem aeL (hp:p<ze) (hq:q<ze) (hg:g<ze) (hh0:h0<ze) (ha:a<ze) (hks:zY ks)
  (hf1 : -9223372036854775808≤f) (hf2:f≤9223372036854775807) (hs1 : -9223372036854775808≤sec) (hs2:sec≤9223372036854775807) (hsd:∀ x∈sd,x<4294967296) (ht:t<256) :
  Fn Tryz.prog 7 [csV p q g h0 a f sec (.slice pk ks.length ck),.slice pS sd.length cS,.int .u8 (t:Int)] (fun w=>RdF z8 (.slice pk ks.length ck) ks w∧RdE jx (.slice pS sd.length cS) sd w∧tc w) (Is (.bool true)):=by
 have hC:=afP p q g h0 a f sec pk ck ks hp hq hg hh0 ha hks hf1 hf2 hs1 hs2;have hL:=dn;refine Fn.enter Tryz.func7 rfl rfl rfl ?_;intro w hw;obtain⟨w1,w2,w4⟩:=hw
 repeat (first|refine Tk ?_|intro _|exact Tz)
 rename_i gZ;refine WO.callsL (hc:=Fn.toL hC) (hp:=.nil) (hR:=fun wx hm=>w1.mod hm.mod) (k:=fun v N hv=>?_);cases hcb:ny p q g a f sec ks with
 | false =>
  rw[hcb] at hv;obtain⟨cs,rfl,hl,h1⟩:=hv.2 rfl;refine WO.swap ?_;simp only[List.cons_append,List.nil_append]
  repeat (first|refine Tj ?_|intro _|refine WO.acall (hc:=hL) (k:=?_)|refine WO.stores (zo (vs:=cs) (cs':=cs) (hl:=hl) (h1:=h1) (hc:=zE (by rw[hl];rfl)) (hle:=by rw[hl];rfl)) ?_|refine Tc ?_|exact Tz)
  done
 | true =>
 rw[hcb] at hv;obtain⟨gN,cN,rfl,rfl,hNl,hcN⟩:=hv.1 rfl;have hcs:=eU hcb;simp only[List.cons_append,List.nil_append];obtain⟨hn1,hn7,hsq,hf0,hsc1,hfs,_,_⟩:=zS hcs.set;obtain⟨F,rfl⟩ : ∃ F:Nat,f=(F:Int):=⟨f.toNat,by omega⟩;obtain⟨m,rfl⟩ : ∃ m:Nat,sec=(m:Int):=⟨sec.toNat,by omega⟩;have hNl2:=yU p g a ks;have hk7:=hcs.len;have hk0:0<ks.length:=by omega
 have hk0' : ¬ ((ks.length:Nat):Int)=0:=by omega
 rw[hNl2];have h3F:3*F+1≤ks.length∧F≤2:=by
  have hs:=hcs.set;unfold y7 at hs;simp only[Bool.and_eq_true,decide_eq_true_eq] at hs;omega
 obtain⟨h3F,hF2⟩:=h3F;have hNb:zY (csN p g a ks):=rF hp;have hhb:exN p g a<ze:=uw hp;have hG:=abP p q g (exN p g a) F m (some ⟨gN,0,none⟩) cN (csN p g a ks) hp hq hg hhb hNb Om hcs.set;rw[hNl2] at hG;obtain⟨ah,hah⟩ : ∃ ah,gnH p q g (exN p g a) F m (csN p g a ks)=ah:=⟨_,rfl⟩;have hal:ah.length=32:=by rw[← hah];unfold gnH;exact zJ _ _
 have hab:∀ b∈ah,b<256:=by rw[← hah];unfold gnH;exact vx _ _
 rw[hah] at hG
 by_cases hlo:sd.length<2
 ·repeat (first|refine WO.does (zR rfl rfl hk0') ?_|refine WO.does (y9 rfl rfl Om) ?_|refine Tj ?_|intro _|refine WO.acall (hc:=hL) (k:=?_)|refine Tc ?_|exact Tz)
  done
 by_cases hhi:5<sd.length
 ·repeat (first|refine WO.does (zR rfl rfl hk0') ?_|refine WO.does (zW rfl rfl Om) ?_|refine WO.does (td rfl rfl Om) ?_|refine Tj ?_|intro _|refine WO.acall (hc:=hL) (k:=?_)|refine Tc ?_|exact Tz)
  done
 obtain⟨n,hn⟩ : ∃ n,ks.length - F=n:=⟨_,rfl⟩;obtain⟨Qm,hQm⟩ : ∃ Qm,(ks.length+F) / 2+1=Qm:=⟨_,rfl⟩;have hn7' : n≤7:=by omega
 have hNew:=adn p q g (exN p g a) (F:Int) (m:Int) (some ⟨gN,0,none⟩) cN (csN p g a ks) hp hq hg hhb hNb Om Om Om Om Om hcs.set;rw[hNl2] at hNew;have hCn:∀ P gK cK,chE p q g (exN p g a) (F:Int) (m:Int) (csN p g a ks) P gK cK 0 0 []=[⟨P,136,chC p q g (exN p g a) (F:Int) (m:Int) (AQ gK ks.length cK) (.slice none 0 0)⟩,⟨gK,105,(csN p g a ks).flatMap z8++mkz (cK - ks.length) (vE 0 0)⟩]:=fun P gK cK=>by
  unfold chE;rw[hNl2];rfl
 repeat (first|refine WO.does (zR rfl rfl hk0') ?_|refine WO.does (zW rfl rfl Om) ?_|refine WO.does (yu rfl rfl Om) ?_|refine Tj ?_|intro _|refine Tc ?_|exact Tz)
 rename_i gS;refine WO.callsL (hc:=Fn.toL hNew) (hp:=.nil) (hR:=fun wx hm=>RdF.ownO (Hs.sg hm) hNl2) (k:=fun v N hv=>?_);obtain⟨P,gK,cK,rfl,rfl⟩:=hv;rw[hCn];simp only[List.cons_append,List.nil_append]
 repeat (first|refine WO.does (zw rfl rfl rfl) ?_|refine Tj ?_|intro _|refine Tc ?_|exact Tz)
 refine WC.loopI (σ:=CuS) (fun s=>s.i≤sd.length∧s.BL.length=s.i∧BlI p q g a F m ks n s.BL∧ChI s.X (s.BL.map (lC p q g a F m n))∧(0<s.i→s.i≤s.cc∧s.cc<9223372036854775808)∧(0<s.i→s.i≤s.lc∧s.lc<9223372036854775808)∧(0<s.i→s.i≤s.mc∧s.mc<9223372036854775808))
  (fun s=>[(1,.slice pS sd.length cS),(2,.int .u8 (t:Int)),(3,Sx.pt gZ),(7,Sx.pt gS),(9,Sx.pt P),(11,agV s.lg s.lc s.i s.i),(12,agV s.mg s.mc s.i s.i),(13,.int .i64 (s.i:Int))])
  (fun s=>⟨gS,36,stC p q g (exN p g a) (F:Int) (m:Int) (AQ gN ks.length cN)⟩::⟨gZ,29,csC p q g h0 a (F:Int) (m:Int) (.slice pk ks.length ck)⟩::⟨gN,105,(csN p g a ks).flatMap z8++mkz (cN - ks.length) (vE 0 0)⟩::((rwL 75 s.lg ((s.BL).flatMap (mbV m n Qm)) (mkz (s.lc - s.i) bkZ) s.i++(rwL 59 s.mg ((s.BL).flatMap (mbE n)) (mkz (s.mc - s.i) evZ) s.i++(s.BL).flatMap (mbM p q g a F m ks n Qm (0%1000))))++chE p q g (exN p g a) (F:Int) (m:Int) (csN p g a ks) P gK cK s.gc s.cc s.X)) (fun s=>sd.length - s.i) ⟨0,[],[],0,0,0,0,0,0⟩ (fun s hs=>?_) ⟨Nat.zero_le _,rfl,fun j b hb=>by simp at hb,ChI.nil,fun h=>absurd h Dtt,fun h=>absurd h Dtt,fun h=>absurd h Dtt⟩
  (hl:=by simp only[rwL,List.flatMap_nil,List.nil_append,List.cons_append,hCn];repeat (first|exact Lle.nil|refine Lle.c ?_))
 obtain⟨i,BL,X,gc,cc,lg,lc,mg,mc⟩:=s;obtain⟨hi,hBl,hBI,hXI,hr1,hr2,hr3⟩:=hs
 try dsimp only at hi hBl hBI hXI hr1 hr2 hr3 ⊢
 have hDl:(BL.map (lC p q g a F m n)).length=i:=by rw[List.length_map,hBl]
 have hB32:∀ b∈BL,b.ah.length=32:=fun b hb=>by
  obtain⟨j,hj⟩:=List.getElem?_of_mem hb;exact (hBI j b hj).1.al
 have hLl:=adR m n Qm hB32;have hMl:=adU n (BL:=BL);rw[hBl] at hLl hMl
 by_cases hlt:i<sd.length
 ·obtain⟨sv,hsv⟩ : ∃ x,sd[i]?=some x:=⟨_,List.getElem?_eq_getElem hlt⟩;have hsv32:=hsd sv (List.mem_of_getElem? hsv);obtain⟨bS,oS,rfl,_,hsS⟩:=id w2 |>.get hsv
  have hcS:(sd.flatMap jx)[oS+i*1 - oS]?=some (.int .u32 (sv:Int)):=by
   rw[Nat.add_sub_cancel_left];exact vg (j:=0) (ve (k:=1) (fun _ _=>rfl) hsv) rfl
  have hHd:=c9 p q g (exN p g a) F m (csN p g a ks) P gK cK gc cc X _ hXI Om hp hq hg hhb hNb Om hcs.set;obtain⟨ahd,hahd⟩ : ∃ x,hdD p q g (exN p g a) F m (csN p g a ks) (BL.map (lC p q g a F m n))=x:=⟨_,rfl⟩;have hahl:ahd.length=32:=by rw[← hahd];exact aet ..
  have hahb:∀ b∈ahd,b<256:=by rw[← hahd];exact afe _ _ _ _ _ _ _ _
  rw[hahd] at hHd;have hMd:=abk p q g h0 a F m pk ck ks (some ⟨gN,0,none⟩) cN (i+1) ahd sv 0 hcs hp hq hg hh0 ha hks Om hahl hsv32 Dtt;rw[hn,hQm] at hMd;have hM1:=Fn.weak hMd (fun _ h=>h) (fun v L h=>aab p q g a F m ks (i+1) ahd sv 0 n Qm hn7' h);have hcvi:IntKind.u64.wrap (i:Int)=(i:Int):=u64_in Om Om;have haddi:IntKind.u64.wrap ((i:Int)+1)=((i+1:Nat):Int):=by show ((i:Int)+1)%18446744073709551616=_;omega
  have hadd:IntKind.i64.wrap ((i:Int)+1)=((i+1:Nat):Int):=zl Om Om Om
  repeat (first|refine Tk ?_|intro _|exact Tz)
  refine WC.dT rfl Om ?_
  repeat (first|refine Tk ?_|intro _|exact Tz)
  refine WC.adrawF [14] 17 (k:=?_)
  iterate 3 refine Dx ?_
  refine DQ.acallR (hc:=hHd) (hR:=fun wx hm=>ChR.of _ _ _ _ _ _ _ _ _ _ _ _ _ (fun e he=>hm.ok e (by repeat (first|exact List.mem_append_right _ he|apply List.mem_cons_of_mem)))) (k:=?_);refine Dx ?_;refine DQ.does (fun s _=>zr rfl hcvi) Dp.const ?_;refine DQ.does (fun s _=>zi rfl rfl haddi) Dp.const ?_
  iterate 2 refine Dx ?_
  refine DQ.does (fun s _=>zb (o':=oS+i*1) rfl rfl hlt rfl) Dp.const ?_;refine DQ.does (fun s _=>zm (v:=.int .u32 (sv:Int)) (hs:=hsS) (hle:=Nat.le_add_right _ _) (hc:=hcS)) Dp.const ?_;refine DQ.callsE (fs:=fun _=>[]) (cs:=fun _=>[]) (R:=fun _ w=>RdF z8 (.slice pk ks.length ck) ks w∧RdF z8 (AQ gN ks.length cN) (csN p g a ks) w∧tc w) (vf:=fun _ x=>mkV m (i+1) ahd n Qm x) (Nf:=fun _ x=>mkL p q g a F m ks (i+1) sv 0 n Qm x) (S:=fun _ _=>True) (fun _=>[]) (fun _=>.nil) (fun _=>⟨fun _=>0,trivial⟩) (fun _ _=>hM1) (fun _=>rfl) (fun _=>rfl) (fun _=>rfl) (fun _ _ w hm=>⟨w1.mod hm.mod,RdF.ownO (Hs.sg hm) hNl2,w4.mod hm.mod Sm⟩) Dp.const Dp.const Dp.const ?_
  iterate 2 refine Dx ?_
  repeat (first|refine Da ?_|refine Df ?_)
  refine DQ.anil (k:=?_);intro sx _;generalize sx 15 0=gB;generalize sx 16 0=gE;generalize sx 11=X1;simp only[mkL,List.map_cons,List.map_nil,List.map_append,List.map_map,Function.comp_def,List.map_id',List.cons_append,List.nil_append,List.append_nil];obtain⟨W1,hW1⟩ : ∃ W,mdW p q g a F m ks (i+1) sv n (fun j=>X1 (10+j))=W:=⟨_,rfl⟩;have kW1:=aW p q g a F m ks (i+1) sv n hn7' (fun j=>X1 (10+j));have hH1:=agm p q g a F m ks (i+1) sv n (fun j=>X1 (10+j));rw[hW1] at kW1 hH1 ⊢;clear hW1;generalize X1 0=gl;generalize X1 1=cl;generalize X1 2=gs;generalize X1 3=cs;generalize X1 4=gh;generalize X1 5=ch;generalize X1 6=gv;generalize X1 7=cv;generalize X1 8=go;generalize X1 9=co;obtain⟨HL,hHL⟩ : ∃ HL,mdH p q g a F m ks (i+1) sv n=HL:=⟨_,rfl⟩;rw[hHL] at hH1 ⊢;have hbG:MbG p q g a F m ks n (⟨i+1,ahd,sv,HL,W1,gh,ch,gv,cv,go,co,gl,cl,gs,cs⟩ : Mb):=⟨kW1,hH1,hahl,hahb⟩;have hbl:(mbV m n Qm (⟨i+1,ahd,sv,HL,W1,gh,ch,gv,cv,go,co,gl,cl,gs,cs⟩ : Mb)).length=37:=y8 hahl;have hb1:(mbV m n Qm (⟨i+1,ahd,sv,HL,W1,gh,ch,gv,cv,go,co,gl,cl,gs,cs⟩ : Mb)).all Value.oneCell'=true:=mh rfl rfl rfl
  repeat (first|refine WO.stores (zo (vs:=mbV m n Qm (⟨i+1,ahd,sv,HL,W1,gh,ch,gv,cv,go,co,gl,cl,gs,cs⟩ : Mb)) (cs':=mbV m n Qm (⟨i+1,ahd,sv,HL,W1,gh,ch,gv,cv,go,co,gl,cl,gs,cs⟩ : Mb)) (hl:=y8 hahl) (h1:=mh rfl rfl rfl) (hc:=zE (by rw[hbl];rfl)) (hle:=by rw[hbl];rfl)) ?_|refine WO.does (zt (vs:=mbV m n Qm (⟨i+1,ahd,sv,HL,W1,gh,ch,gv,cv,go,co,gl,cl,gs,cs⟩ : Mb)) (hc:=zx hbl) (hl:=hbl)) ?_|refine Tj ?_|intro _|refine Tc ?_|exact Tz)
  refine WO.permL (ew (R:=mbM p q g a F m ks n Qm (0%1000) (⟨i+1,ahd,sv,HL,W1,gh,ch,gv,cv,go,co,gl,cl,gs,cs⟩ : Mb)) (l:=rwL 75 lg ((BL).flatMap (mbV m n Qm)) (mkz (lc - i) bkZ) i) (m:=rwL 59 mg ((BL).flatMap (mbE n)) (mkz (mc - i) evZ) i) (M:=(BL).flatMap (mbM p q g a F m ks n Qm (0%1000))) (C:=chE p q g (exN p g a) (F:Int) (m:Int) (csN p g a ks) P gK cK gc cc X)) ?_;refine WO.callsQ (hh:=w4) (hp:=List.perm_append_comm (l₁:=[_,_,_,_,_]++(rwL 75 lg ((BL).flatMap (mbV m n Qm)) (mkz (lc - i) bkZ) i++(rwL 59 mg ((BL).flatMap (mbE n)) (mkz (mc - i) evZ) i++((BL).flatMap (mbM p q g a F m ks n Qm (0%1000))++mbM p q g a F m ks n Qm (0%1000) (⟨i+1,ahd,sv,HL,W1,gh,ch,gv,cv,go,co,gl,cl,gs,cs⟩ : Mb))))) (l₂:=chE p q g (exN p g a) (F:Int) (m:Int) (csN p g a ks) P gK cK gc cc X)) (hc:=fun h0=>ab2 p q g a F m ks n Qm (0%1000) P gK cK gc cc X _ _ (⟨i+1,ahd,sv,HL,W1,gh,ch,gv,cv,go,co,gl,cl,gs,cs⟩ : Mb) hbG hXI hahd.symm (by show i+1=_;omega) Om (fun h=>by rw[hDl] at h ⊢;exact hr1 h) hcs hp hq hg Dtt h3F hn hQm (fun e he=>List.mem_append_right _ (List.mem_append_right _ (List.mem_append_right _ (List.mem_append_right _ he)))) h0) (k:=fun v T' hv=>?_);obtain⟨rfl,gc2,cc2,X2,rfl,hXI2,r5,r6⟩:=hv;rw[hDl] at r5;refine WO.swap ?_;simp only[List.cons_append,List.nil_append]
  repeat (first|refine WO.does (zw rfl rfl rfl) ?_|refine WO.does (zt (vs:=mbV m n Qm (⟨i+1,ahd,sv,HL,W1,gh,ch,gv,cv,go,co,gl,cl,gs,cs⟩ : Mb)) (hc:=zx hbl) (hl:=hbl)) ?_|refine Tj ?_|intro _|refine Tc ?_|exact Tz)
  refine WO.makes (zh (cs:=mbV m n Qm (⟨i+1,ahd,sv,HL,W1,gh,ch,gv,cv,go,co,gl,cl,gs,cs⟩ : Mb)) rfl Dtt (ada hbl)) ?_;intro b1;refine WO.appR (z:=bkZ) (B:=BL.flatMap (mbV m n Qm)) (ys:=mbV m n Qm (⟨i+1,ahd,sv,HL,W1,gh,ch,gv,cv,go,co,gl,cl,gs,cs⟩ : Mb)) (m:=1) (n:=i) (l:=i+1) (g:=lg) (c:=lc) (L1:=[_,_,_,_,_,_]) (L2:=(rwL 59 mg ((BL).flatMap (mbE n)) (mkz (mc - i) evZ) i++((BL).flatMap (mbM p q g a F m ks n Qm (0%1000))++mbM p q g a F m ks n Qm (0%1000) (⟨i+1,ahd,sv,HL,W1,gh,ch,gv,cv,go,co,gl,cl,gs,cs⟩ : Mb)))++chE p q g (exN p g a) (F:Int) (m:Int) (csN p g a ks) P gK cK gc2 cc2 X2) rfl rfl rfl hL6 hLl hr2 (Rds.own (m:=37) Hs.a (zx hbl)) hbl hb1 Dtt rfl Om Om Dtt Dtt (fun g1 c1 a1 a2=>?_);simp only[List.cons_append,List.nil_append]
  repeat (first|refine Tk ?_|intro _|exact Tz)
  refine WO.makes (zh (cs:=mbE n (⟨i+1,ahd,sv,HL,W1,gh,ch,gv,cv,go,co,gl,cl,gs,cs⟩ : Mb)) rfl Dtt rfl) ?_;intro b2;refine WO.appR (z:=evZ) (B:=BL.flatMap (mbE n)) (ys:=mbE n (⟨i+1,ahd,sv,HL,W1,gh,ch,gv,cv,go,co,gl,cl,gs,cs⟩ : Mb)) (m:=1) (n:=i) (l:=i+1) (g:=mg) (c:=mc) (L1:=[_,_,_,_,_,_,_,_]) (L2:=((BL).flatMap (mbM p q g a F m ks n Qm (0%1000))++mbM p q g a F m ks n Qm (0%1000) (⟨i+1,ahd,sv,HL,W1,gh,ch,gv,cv,go,co,gl,cl,gs,cs⟩ : Mb))++chE p q g (exN p g a) (F:Int) (m:Int) (csN p g a ks) P gK cK gc2 cc2 X2) rfl rfl rfl hL8 hMl hr3 (Rds.own (m:=3) Hs.a rfl) rfl rfl Dtt rfl Om Om Dtt Dtt (fun g2 c2 a3 a4=>?_);simp only[List.cons_append,List.nil_append];refine WO.permL ct ?_
  repeat (first|refine WO.does (zi rfl rfl hadd) ?_|refine Tj ?_|intro _|refine Tc ?_|exact Tz)
  exact WX.metI ⟨i+1,BL++[(⟨i+1,ahd,sv,HL,W1,gh,ch,gv,cv,go,co,gl,cl,gs,cs⟩ : Mb)],X2,gc2,cc2,g1,c1,g2,c2⟩ (hl:=by
   simp only[List.flatMap_append,List.flatMap_cons,List.flatMap_nil,List.append_nil];exact Lle.left) (hs:=⟨⟨by show i+1≤sd.length;omega,by show (BL++[(⟨i+1,ahd,sv,HL,W1,gh,ch,gv,cv,go,co,gl,cl,gs,cs⟩ : Mb)]).length=i+1;rw[List.length_append,hBl];rfl,hBI.snoc _ _ _ _ _ _ _ _ hbG (by show i+1=_;omega) hahd.symm,by show ChI X2 ((BL++[(⟨i+1,ahd,sv,HL,W1,gh,ch,gv,cv,go,co,gl,cl,gs,cs⟩ : Mb)]).map (lC p q g a F m n));rw[List.map_append];exact hXI2,fun _=>⟨r5,r6⟩,fun _=>⟨a2,a1⟩,fun _=>⟨a4,a3⟩⟩,by show sd.length - (i+1)<sd.length - i;omega⟩)
 have hi2:i=sd.length:=by omega
 have hi0:0<i:=by omega
 clear hlt;have hi5:2≤i∧i≤5:=by omega
 obtain⟨u1,u2⟩:=hr2 hi0;obtain⟨u3,u4⟩:=hr3 hi0;rw[yD hi0,yD hi0,yk hi0,yk hi0];simp only[List.cons_append,List.nil_append];obtain⟨DD,hDD⟩ : ∃ DD,BL.map (lC p q g a F m n)=DD:=⟨_,rfl⟩;rw[hDD] at hXI hDl;have hDg:∀ (j:Nat) (b:Mb),BL[j]?=some b→DD[j]?=some ((lC p q g a F m n) b):=fun j b hj=>by rw[← hDD,List.getElem?_map,hj];rfl
 have hcvt:IntKind.i64.wrap (t:Int)=(t:Int):=i64_in Om Om;have hsub1:IntKind.i64.wrap ((i:Int) - 1)=((i - 1:Nat):Int):=zl Om Om Om;obtain⟨k,hk⟩ : ∃ k,t%(i - 1)=k:=⟨_,rfl⟩;have hki:k<i - 1:=by rw[← hk];exact Nat.mod_lt _ Om
 have hremk:(t:Int).tmod ((i - 1:Nat):Int)=(k:Int):=by rw[← hk];rfl
 have hi1:((i - 1:Nat):Int)≠0:=by omega
 repeat (first|refine Tk ?_|intro _|exact Tz)
 refine WC.dF rfl Om ?_
 repeat (first|refine WO.does (zr rfl hcvt) ?_|refine WO.does (zG rfl rfl hsub1) ?_|refine WO.does (yB rfl rfl hi1 hremk) ?_|refine Tj ?_|intro _|refine Tc ?_|exact Tz)
 refine WO.callsL (hc:=Fn.toL hNew) (hp:=.nil) (hR:=fun wx hm=>RdF.ownO (Hs.sg hm) hNl2) (k:=fun v N hv=>?_);obtain⟨P2,gK2,cK2,rfl,rfl⟩:=hv;refine WO.swap ?_;simp only[List.cons_append];obtain⟨R,hR⟩ : ∃ R,(BL).flatMap (mbM p q g a F m ks n Qm (0%1000))++chE p q g (exN p g a) (F:Int) (m:Int) (csN p g a ks) P gK cK gc cc X=R:=⟨_,rfl⟩;have hRm:∀ b∈BL,∀ e∈mbM p q g a F m ks n Qm (0%1000) b,e∈R:=fun b hb e he=>by rw[← hR];exact List.mem_append_left _ (List.mem_flatMap.2 ⟨b,hb,he⟩)
 have hRc:∀ e∈chE p q g (exN p g a) (F:Int) (m:Int) (csN p g a ks) P gK cK gc cc X,e∈R:=fun e he=>by rw[← hR];exact List.mem_append_right _ he
 rw[hR];clear hR
 repeat (first|refine WO.does (zw rfl rfl rfl) ?_|refine Tj ?_|intro _|refine Tc ?_|exact Tz)
 refine WC.loopI (σ:=Nat × List Wh × Nat × Nat) (fun s=>s.1≤k∧ChI s.2.1 (DD.take s.1)∧(0<s.1→s.1≤s.2.2.2∧s.2.2.2<9223372036854775808)) (fun s=>[(7,Sx.pt gS),(9,Sx.pt P),(11,AQ lg i lc),(12,AQ mg i mc),(16,.int .i64 (k:Int)),(17,Sx.pt P2),(18,.int .i64 (s.1:Int))])
  (fun s=>⟨gS,36,stC p q g (exN p g a) (F:Int) (m:Int) (AQ gN ks.length cN)⟩::⟨lg,75,BL.flatMap (mbV m n Qm)++mkz (lc - i) bkZ⟩::⟨mg,59,BL.flatMap (mbE n)++mkz (mc - i) evZ⟩::(R++chE p q g (exN p g a) (F:Int) (m:Int) (csN p g a ks) P2 gK2 cK2  s.2.2.1 s.2.2.2 s.2.1)) (fun s=>k - s.1) (0,[],0,0) (fun s hs=>?_) ⟨Nat.zero_le _,ChI.nil,fun h=>absurd h Dtt⟩ (hl:=by repeat (first|exact Lle.same|refine Lle.c ?_|refine Lle.skip ?_))
 obtain⟨r,XO,g2,c2⟩:=s;obtain⟨hr,hXO,ho⟩:=hs
 try dsimp only at hr hXO ho ⊢
 have hTl:(DD.take r).length=r:=by rw[List.length_take];omega
 by_cases hlt:r<k
 ·obtain⟨b,hb⟩ : ∃ b,BL[r]?=some b:=⟨_,List.getElem?_eq_getElem Om⟩;obtain⟨hbG,hbep,hbah⟩:=hBI r b hb;have hb37:(mbV m n Qm b).length=37:=y8 hbG.al;have hcb:cut (BL.flatMap (mbV m n Qm)++mkz (lc - i) bkZ) (r*37) 37=mbV m n Qm b:=yF (fun b hb=>y8 (hB32 b hb)) hb;have hce:cut (BL.flatMap (mbE n)++mkz (mc - i) evZ) (r*3) 3=mbE n b:=yF (fun _ _=>rfl) hb;have hadd:IntKind.i64.wrap ((r:Int)+1)=((r+1:Nat):Int):=zl Om Om Om;rw[List.map_take,hDD] at hbah
  repeat (first|refine Tk ?_|intro _|exact Tz)
  refine WC.dT rfl Om ?_
  repeat (first|refine Tk ?_|intro _|exact Tz)
  refine WC.mainV [9,10] [(0,Sx.pt P2),(1,AQ lg i lc),(2,.int .i64 (r:Int)),(3,.pointer (some ⟨lg,r*37,none⟩)),(4,.agg (mbV m n Qm b).toArray),(5,AQ mg i mc),(6,.int .i64 (r:Int)),(7,.pointer (some ⟨mg,r*3,none⟩)),(8,.agg (mbE n b).toArray)] Dtt ?_;refine WT.with [⟨lg,75,BL.flatMap (mbV m n Qm)++mkz (lc - i) bkZ⟩,⟨mg,59,BL.flatMap (mbE n)++mkz (mc - i) evZ⟩] Kr (Tlv.auto (Tlv.auto (Tlv.auto (Tlv.d rfl (zb (o':=r*37) rfl rfl Om (Nat.zero_add _)) (Tlv.d rfl (zt (vs:=mbV m n Qm b) (hc:=hcb) (hl:=hb37)) (Tlv.auto (Tlv.auto (Tlv.d rfl (zb (o':=r*3) rfl rfl Om (Nat.zero_add _)) (Tlv.d rfl (zt (vs:=mbE n b) (hc:=hce)) Tlv.nil))))))))) (fun hc hT=>?_)
  refine WT.one (m:=9) rfl hc hT ?_;refine WO.callsQ (hh:=w4) (hp:=List.perm_append_comm (l₁:=[_,_,_]++R) (l₂:=chE p q g (exN p g a) (F:Int) (m:Int) (csN p g a ks) P2 gK2 cK2  g2 c2 XO)) (hc:=fun h0=>ab2 p q g a F m ks n Qm (0%1000) P2 gK2 cK2 g2 c2 XO _ _ b hbG hXO hbah (by rw[hbep,hTl]) Om (fun h=>by rw[hTl] at h ⊢;exact ho h) hcs hp hq hg Dtt h3F hn hQm (fun e he=>List.mem_append_right _ (hRm b (List.mem_of_getElem? hb) e he)) h0) (k:=fun v T' hv=>?_);obtain⟨rfl,g3,c3,X3,rfl,hX3,r5,r6⟩:=hv;refine WO.swap ?_;simp only[List.cons_append,List.nil_append];refine WO.nil (WX.wt [(120,.int .i64 0)] ?_);refine WT.one (m:=10) rfl hc hT ?_;refine WO.does (zw rfl rfl rfl) ?_;refine WO.nil (WX.wt [(121,.bool false)] ?_);refine WT.fin [10] 12 hc rfl Kr ?_;clear hc hT
  repeat (first|refine WO.does (zi rfl rfl hadd) ?_|refine Tj ?_|intro _|refine Tc ?_|exact Tz)
  exact WX.metI (r+1,X3,g3,c3) (hl:=by repeat (first|exact Lle.same|refine Lle.c ?_|refine Lle.skip ?_)) (hs:=⟨⟨by show r+1≤k;omega,by show ChI X3 (DD.take (r+1));rw[List.take_add_one,hDg r b hb];exact hX3,fun _=>⟨by rw[hTl] at r5;exact r5,r6⟩⟩,by show k - (r+1)<k - r;omega⟩)
 obtain rfl:k=r:=by omega
 clear hlt;have hXl:=hXO.len;rw[hTl] at hXl;have hRo:∀ {wx:World},(∀ e∈chE p q g (exN p g a) (F:Int) (m:Int) (csN p g a ks) P2 gK2 cK2  g2 c2 XO,e.ok wx)→Seg wx P2 0 (chC p q g (exN p g a) (F:Int) (m:Int) (AQ gK2 ks.length cK2) (agV g2 c2 k k)):=fun he=>by
  have h1:=(ChR.of _ _ _ _ _ _ _ _ _ _ _ _ _ he).c;rwa [hXl,hNl2] at h1
 have haddk:IntKind.i64.wrap ((k:Int)+1)=((k+1:Nat):Int):=zl Om Om Om
 repeat (first|refine Tk ?_|intro _|exact Tz)
 refine WC.dF rfl Om ?_
 repeat (first|refine WO.does (zi rfl rfl haddk) ?_|refine Tj ?_|intro _|refine Tc ?_|exact Tz)
 refine WC.loopI (σ:=Nat) (fun s=>k+1≤s∧s≤i) (fun s=>[(7,Sx.pt gS),(9,Sx.pt P),(11,AQ lg i lc),(12,AQ mg i mc),(16,.int .i64 (k:Int)),(17,Sx.pt P2),(19,.int .i64 (s:Int))])
  (fun _=>⟨gS,36,stC p q g (exN p g a) (F:Int) (m:Int) (AQ gN ks.length cN)⟩::⟨lg,75,BL.flatMap (mbV m n Qm)++mkz (lc - i) bkZ⟩::⟨mg,59,BL.flatMap (mbE n)++mkz (mc - i) evZ⟩::(R++chE p q g (exN p g a) (F:Int) (m:Int) (csN p g a ks) P2 gK2 cK2  g2 c2 XO)) (fun s=>i - s) (k+1) (fun r hs=>?_) ⟨by omega,by omega⟩ (hl:=by repeat (first|exact Lle.same|refine Lle.c ?_|refine Lle.skip ?_))
 obtain⟨hr0,hr1⟩:=hs
 try dsimp only at hr0 hr1 ⊢
 by_cases hlt:r<i
 ·obtain⟨b,hb⟩ : ∃ b,BL[r]?=some b:=⟨_,List.getElem?_eq_getElem Om⟩;obtain⟨hbG,hbep,hbah⟩:=hBI r b hb;have hb37:(mbV m n Qm b).length=37:=y8 hbG.al;have hcb:cut (BL.flatMap (mbV m n Qm)++mkz (lc - i) bkZ) (r*37) 37=mbV m n Qm b:=yF (fun b hb=>y8 (hB32 b hb)) hb;have hce:cut (BL.flatMap (mbE n)++mkz (mc - i) evZ) (r*3) 3=mbE n b:=yF (fun _ _=>rfl) hb;have hadd:IntKind.i64.wrap ((r:Int)+1)=((r+1:Nat):Int):=zl Om Om Om;have hPE:=mG p q g (exN p g a) (F:Int) (m:Int) (AQ gK2 ks.length cK2) P2 g2 c2 k b.ep b.ep b.ah (some ⟨b.gh,0,none⟩) (some ⟨b.gv,0,none⟩) (some ⟨b.go,0,none⟩) (some ⟨b.gl,0,none⟩) none (some ⟨b.gs,0,none⟩) n Qm m n 0 n b.ch b.cv m b.cl 0 b.cs hbG.al Om Om
  repeat (first|refine Tk ?_|intro _|exact Tz)
  refine WC.dT rfl Om ?_
  repeat (first|refine Tk ?_|intro _|exact Tz)
  refine WC.adraw 11 (k:=?_)
  iterate 11 (first|refine DQ.does (fun s _=>zb (o':=r*37) rfl rfl Om (Nat.zero_add _)) Dp.const ?_|refine DQ.does (fun s _=>zb (o':=r*3) rfl rfl Om (Nat.zero_add _)) Dp.const ?_|refine DQ.does (fun s _=>zt (vs:=mbV m n Qm b) (hc:=hcb) (hl:=hb37)) Dp.const ?_|refine DQ.does (fun s _=>zt (vs:=mbE n b) (hc:=hce)) Dp.const ?_|refine DQ.acallR (hc:=hPE) (hR:=fun wx hm=>hRo (fun e he=>hm.ok e (by repeat (first|exact List.mem_append_right _ he|apply List.mem_cons_of_mem)))) (k:=?_)|refine DQ.does (fun s _=>zw rfl rfl rfl) Dp.const ?_|refine Da ?_|refine Dc ?_)
  refine DQ.anil (k:=?_);intro sx _
  repeat (first|refine WO.does (zi rfl rfl hadd) ?_|refine Tj ?_|intro _|refine Tc ?_|exact Tz)
  exact WX.metI (r+1) (hl:=by repeat (first|exact Lle.same|refine Lle.c ?_|refine Lle.skip ?_)) (hs:=⟨⟨by show k+1≤r+1;omega,by show r+1≤i;omega⟩,by show i - (r+1)<i - r;omega⟩)
 obtain rfl:i=r:=by omega
 clear hlt hr0 hr1
 repeat (first|refine Tk ?_|intro _|exact Tz)
 refine WC.dF rfl Om ?_
 repeat (first|refine Tk ?_|intro _|exact Tz)
 refine WC.loopI (σ:=Nat) (fun s=>0≤s∧s≤k) (fun s=>[(7,Sx.pt gS),(9,Sx.pt P),(11,AQ lg i lc),(12,AQ mg i mc),(16,.int .i64 (k:Int)),(17,Sx.pt P2),(20,.int .i64 (s:Int))])
  (fun _=>⟨gS,36,stC p q g (exN p g a) (F:Int) (m:Int) (AQ gN ks.length cN)⟩::⟨lg,75,BL.flatMap (mbV m n Qm)++mkz (lc - i) bkZ⟩::⟨mg,59,BL.flatMap (mbE n)++mkz (mc - i) evZ⟩::(R++chE p q g (exN p g a) (F:Int) (m:Int) (csN p g a ks) P2 gK2 cK2  g2 c2 XO)) (fun s=>k - s) (0) (fun r hs=>?_) ⟨by omega,by omega⟩ (hl:=by repeat (first|exact Lle.same|refine Lle.c ?_|refine Lle.skip ?_))
 obtain⟨hr0,hr1⟩:=hs
 try dsimp only at hr0 hr1 ⊢
 by_cases hlt:r<k
 ·obtain⟨b,hb⟩ : ∃ b,BL[r]?=some b:=⟨_,List.getElem?_eq_getElem Om⟩;obtain⟨hbG,hbep,hbah⟩:=hBI r b hb;have hb37:(mbV m n Qm b).length=37:=y8 hbG.al;have hcb:cut (BL.flatMap (mbV m n Qm)++mkz (lc - i) bkZ) (r*37) 37=mbV m n Qm b:=yF (fun b hb=>y8 (hB32 b hb)) hb;have hce:cut (BL.flatMap (mbE n)++mkz (mc - i) evZ) (r*3) 3=mbE n b:=yF (fun _ _=>rfl) hb;have hadd:IntKind.i64.wrap ((r:Int)+1)=((r+1:Nat):Int):=zl Om Om Om;have hPE:=mG p q g (exN p g a) (F:Int) (m:Int) (AQ gK2 ks.length cK2) P2 g2 c2 k b.ep b.ep b.ah (some ⟨b.gh,0,none⟩) (some ⟨b.gv,0,none⟩) (some ⟨b.go,0,none⟩) (some ⟨b.gl,0,none⟩) none (some ⟨b.gs,0,none⟩) n Qm m n 0 n b.ch b.cv m b.cl 0 b.cs hbG.al Om Om
  repeat (first|refine Tk ?_|intro _|exact Tz)
  refine WC.dT rfl Om ?_
  repeat (first|refine Tk ?_|intro _|exact Tz)
  refine WC.adraw 11 (k:=?_)
  iterate 11 (first|refine DQ.does (fun s _=>zb (o':=r*37) rfl rfl Om (Nat.zero_add _)) Dp.const ?_|refine DQ.does (fun s _=>zb (o':=r*3) rfl rfl Om (Nat.zero_add _)) Dp.const ?_|refine DQ.does (fun s _=>zt (vs:=mbV m n Qm b) (hc:=hcb) (hl:=hb37)) Dp.const ?_|refine DQ.does (fun s _=>zt (vs:=mbE n b) (hc:=hce)) Dp.const ?_|refine DQ.acallR (hc:=hPE) (hR:=fun wx hm=>hRo (fun e he=>hm.ok e (by repeat (first|exact List.mem_append_right _ he|apply List.mem_cons_of_mem)))) (k:=?_)|refine DQ.does (fun s _=>zw rfl rfl rfl) Dp.const ?_|refine Da ?_|refine Dc ?_)
  refine DQ.anil (k:=?_);intro sx _
  repeat (first|refine WO.does (zi rfl rfl hadd) ?_|refine Tj ?_|intro _|refine Tc ?_|exact Tz)
  exact WX.metI (r+1) (hl:=by repeat (first|exact Lle.same|refine Lle.c ?_|refine Lle.skip ?_)) (hs:=⟨⟨by show 0≤r+1;omega,by show r+1≤k;omega⟩,by show k - (r+1)<k - r;omega⟩)
 obtain rfl:k=r:=by omega
 clear hlt hr0 hr1
 repeat (first|refine Tk ?_|intro _|exact Tz)
 refine WC.dF rfl Om ?_
 repeat (first|refine Tk ?_|intro _|exact Tz)
 have hkm:k*m≤25:=Nat.le_trans (Nat.mul_le_mul (show k≤5 by omega) (show m≤5 by omega)) Dtt;have hmulk:IntKind.i64.wrap ((k:Int)*(m:Int))=((k*m:Nat):Int):=by
  rw[← Int.natCast_mul];exact i64_in Om Om
 have hm0:0<m:=by omega
 refine WC.loopI (σ:=Nat) (fun s=>s≤k*m) (fun s=>[(7,Sx.pt gS),(9,Sx.pt P),(11,AQ lg i lc),(12,AQ mg i mc),(16,.int .i64 (k:Int)),(17,Sx.pt P2),(21,.int .i64 (s:Int))])
  (fun _=>⟨gS,36,stC p q g (exN p g a) (F:Int) (m:Int) (AQ gN ks.length cN)⟩::⟨lg,75,BL.flatMap (mbV m n Qm)++mkz (lc - i) bkZ⟩::⟨mg,59,BL.flatMap (mbE n)++mkz (mc - i) evZ⟩::(R++chE p q g (exN p g a) (F:Int) (m:Int) (csN p g a ks) P2 gK2 cK2  g2 c2 XO)) (fun s=>k*m - s) 0 (fun r hr1=>?_) (Nat.zero_le _) (hl:=by repeat (first|exact Lle.same|refine Lle.c ?_|refine Lle.skip ?_))
 try dsimp only at hr1 ⊢
 by_cases hlt:r<k*m
 ·have hadd:IntKind.i64.wrap ((r:Int)+1)=((r+1:Nat):Int):=zl Om Om Om;have hcvr:IntKind.u64.wrap (r:Int)=(r:Int):=u64_in Om Om;have hjm:r%m<m:=Nat.mod_lt _ hm0;have hij:r=r / m*m+r%m:=by rw[Nat.mul_comm];exact (Nat.div_add_mod r m).symm
  have hik:r / m<k:=by rw[Nat.div_lt_iff_lt_mul hm0];exact hlt
  generalize r / m=i' at hij hik;generalize r%m=j' at hij hjm;obtain⟨b,hb⟩ : ∃ b,BL[i']?=some b:=⟨_,List.getElem?_eq_getElem Om⟩;have hd:=hDg i' b hb;have hd2:(DD.take k)[i']?=some ((lC p q g a F m n) b):=by rw[List.getElem?_take_of_lt hik];exact hd
  have hol:((lC p q g a F m n) b).OL.length=m:=tE ..;have hOO:∀ X∈((lC p q g a F m n) b).OL,X.length=32∧∀ b∈X,b<256:=mj;obtain⟨HS,hHS⟩ : ∃ x,((lC p q g a F m n) b).OL[j']?=some x:=⟨_,List.getElem?_eq_getElem Om⟩;obtain⟨hHl,hHb⟩:=hOO HS (List.mem_of_getElem? hHS);have hbl:(byC HS).length=32:=by rw[zd];exact hHl
  have hV1:=abQ p q g (exN p g a) F m (csN p g a ks) P2 gK2 cK2 g2 c2 XO _ hXO Om hm0 Om ((lC p q g a F m n) b) r i' j' HS hij hjm hd2 hol hHS;have hV2:=abQ p q g (exN p g a) F m (csN p g a ks) P gK cK gc cc X _ hXI Om hm0 Om ((lC p q g a F m n) b) r i' j' HS hij hjm hd hol hHS
  repeat (first|refine WO.does (yq rfl rfl hmulk) ?_|refine Tj ?_|intro _|refine Tc ?_|exact Tz)
  refine WC.dT rfl Om ?_
  repeat (first|refine WO.does (zr rfl hcvr) ?_|refine WO.acallR (hc:=hV1) (hR:=fun wx hm=>ChR.of _ _ _ _ _ _ _ _ _ _ _ _ _ (fun e he=>hm.ok e (by repeat (first|exact List.mem_append_right _ he|apply List.mem_cons_of_mem)))) (k:=?_)|refine WO.stores (zo (vs:=byC HS) (cs':=byC HS) (hl:=hbl) (h1:=zM HS) (hc:=zE (by rw[hbl];rfl)) (hle:=by rw[hbl];rfl)) ?_|refine WO.acallR (hc:=hV2) (hR:=fun wx hm=>ChR.of _ _ _ _ _ _ _ _ _ _ _ _ _ (fun e he=>hm.ok e (by repeat (first|exact List.mem_append_left _ (hRc e he)|apply List.mem_cons_of_mem)))) (k:=?_)|refine WO.does (zw rfl rfl rfl) ?_|refine WO.does (zt (vs:=byC HS) (hc:=zx hbl) (hl:=hbl)) ?_|refine WO.does (tH hHb hHb hHl hHl rfl rfl (show (!decide (HS=HS))=false by simp)) ?_|refine WO.does (zi rfl rfl hadd) ?_|refine Tj ?_|intro _|refine Tc ?_|exact Tz)
  exact WX.metI (r+1) (hl:=by repeat (first|exact Lle.same|refine Lle.c ?_|refine Lle.skip ?_)) (hs:=⟨by show r+1≤k*m;omega,by show k*m - (r+1)<k*m - r;omega⟩)
 obtain rfl:r=k*m:=by omega
 clear hlt hr1;have hcvk:IntKind.u64.wrap ((k*m:Nat):Int)=((k*m:Nat):Int):=u64_in Om Om;have hY:=iS p q g (exN p g a) (F:Int) (m:Int) (csN p g a ks) P2 gK2 cK2 g2 c2 XO Om m rfl hm0 Om (k*m) k 0 Om hm0 Om Om;have hLn:=ac5 p q g (exN p g a) (F:Int) (m:Int) (AQ gK2 ks.length cK2) P2 g2 c2 k;rw[hXl,hNl2] at hY;have hbz:(byC (List.replicate 32 0)).length=32:=rfl
 repeat (first|refine WO.does (yq rfl rfl hmulk) ?_|refine Tj ?_|intro _|refine Tc ?_|exact Tz)
 refine WC.dF rfl Om ?_
 repeat (first|refine WO.does (yq rfl rfl hmulk) ?_|refine WO.does (zr rfl hcvk) ?_|refine WO.acallR (hc:=hY) (hR:=fun wx hm=>hRo (fun e he=>hm.ok e (by repeat (first|exact List.mem_append_right _ he|apply List.mem_cons_of_mem)))) (k:=?_)|refine WO.stores (zo (vs:=byC (List.replicate 32 0)) (cs':=byC (List.replicate 32 0)) (hl:=hbz) (h1:=zM _) (hc:=zE (by rw[hbz];rfl)) (hle:=by rw[hbz];rfl)) ?_|refine WO.acallR (hc:=hLn) (hR:=fun wx hm=>hRo (fun e he=>hm.ok e (by repeat (first|exact List.mem_append_right _ he|apply List.mem_cons_of_mem)))) (k:=?_)|refine WO.does (zN rfl rfl rfl) ?_|refine Tj ?_|intro _|refine WO.acall (hc:=hL) (k:=?_)|refine Tc ?_|exact Tz)
end
end Sx
end
end Go.Proofs.YtiaibpcaloigkaaGreatDoor
