/- Part 47 of the proof. -/
import Derived.Test.YtiaibpcaloigkaaGreatDoorG46
set_option linter.unusedSimpArgs false
set_option linter.unusedVariables false
set_option maxHeartbeats 8000000
namespace Go.Proofs.YtiaibpcaloigkaaGreatDoor
section
open Go Go.RowKit Go.BigFrame
namespace Sx
section
variable {P:Program} {w0:World} {n:Nat} {ops:List Oper} {Q:Exit→Act→World→Prop} {K:List (Nat × Value)} {L:List Ent} {rest:List Oper}
variable {d:Nat} {op:Op} {ty:TypeId} {pos:String} {after:Array Edge} {gd:Option (Nat × Bool)}
theorem WO.callsQ {f:FuncId} [Cal P f] {xs:Array Operand} {ats:Array TypeId} {ar:LV} {A T:List Ent} {post:Value→List Ent→Prop} (hh:uY w0) (hp:L.Perm (T++A)) (hc:0 ∉ (T++A).map Ent.g→FnL P f ar (T++A) uY (fun v N=>∃ T',N=T'++A∧post v T'))
  (k:∀ v T',post v T'→WO P w0 [] n ops Q ((d,v)::K) (T'++A) rest) (ha:evs K xs.toList=some ar:=by rfl) (hd:Nat.blt d n=true:=by rfl) (hw:wk ops K gd=some true:=by rfl) :
  WO P w0 [] n ops Q K L (⟨some d,.call { callee:=.value (.func f),args:=xs,argTypes:=ats },ty,pos,after,gd⟩::rest):=by
 intro a w hdf hsz hk hme;refine wpList_step fun F hF=>?_;rw[if_pos (yF (o:=⟨some d,.call { callee:=.value (.func f),args:=xs,argTypes:=ats },ty,pos,after,gd⟩) hk hw)];have hd' : d<n:=by simpa [Nat.blt_eq] using hd
 have hme':=hme.perm hp;have h0:0 ∉ (T++A).map Ent.g:=fun h=>by
  obtain⟨e,he,h1⟩:=List.mem_map.1 h;have h2:=(hme'.mine e he).resolve_right Sm;have h3:0<w0.heap.size:=Seg.lt1 hh;omega
 have h1:=vr (P:=P) (f:=f) (ty:=ty) (pos:=pos) (after:=after) (gd:=gd) (dst:=some d) (ats:=ats) (x:=.func f) (w:=w) (fs:=[]) (cs:=[]) hk rfl ha;unfold Oper.wp;simp only[List.nil_append,List.append_nil] at h1;rw[h1,Oper.upon_enter];refine (hc h0 w hme'.ok hme'.nodup (hh.mod hme.mod Sm)).mono ?_;rintro e w' ⟨v,N,rfl,hm,T',rfl,hp⟩;have h4:Me w0 [] (T++A++[]) w:=by rw[List.append_nil];exact hme'
 have h5:=h4.callL hm;rw[List.append_nil] at h5;exact hF _ _ (k v T' hp _ _ (by rw[put_defers];exact hdf) (by rw[yk];exact hsz) (hk.put Om v) h5)
end
attribute [local irreducible] wd DQ WO WC WX WT ddH yN hOf voH vtS gnH
structure Wh where
 ep:Nat
 ah:List Nat
 HL:List (List Nat)
 VL:List Vt
 OL:List (List Nat)
 T:List (Dd × Dk)
 S:List Sw
 gh:Nat
 rh:Nat
 gv:Nat
 rv:Nat
 go:Nat
 ro:Nat
 gl:Nat
 rl:Nat
 gs:Nat
 rs:Nat
 M:List Ent
def whV (x:Wh):List Value:=whC x.ep x.ah x.ep (AQ x.gh x.HL.length x.HL.length) (AQ x.gv x.VL.length x.VL.length) (AQ x.go x.OL.length x.OL.length) (AQ x.gl x.T.length x.T.length) (.slice none 0 0) (AQ x.gs x.S.length x.S.length)
def whE (x:Wh):List Ent:=⟨x.gh,70,x.HL.flatMap byC++mkz x.rh hzC⟩::⟨x.gv,140,x.VL.flatMap vtC++mkz x.rv vtZ⟩::⟨x.go,70,x.OL.flatMap byC++mkz x.ro hzC⟩::⟨x.gl,51,x.T.flatMap (ddC x.ep)++mkz x.rl dzC⟩::⟨x.gs,53,x.S.flatMap swC++mkz x.rs swZ⟩::x.M
structure WhI (x:Wh):Prop where
 al:x.ah.length=32
 d:ddM x.M x.T
 s:swM x.M x.S
structure WhD (x:Wh) (ep:Nat) (ah:LN) (HL:List (List Nat)) (VL:List Vt) (OL:List (List Nat)) (T:List (Dd × Dk)) (SH:List Sw):Prop where
 ep:x.ep=ep
 ah:x.ah=ah
 H:x.HL=HL
 V:x.VL=VL
 O:x.OL=OL
 T:x.T.map Prod.fst=T.map Prod.fst
 S:x.S.map (fun y=>(y.e,y.d,y.P))=SH.map (fun y=>(y.e,y.d,y.P))
abbrev chC (p q g h:Nat) (f sec:Int) (ns l:Value):List Value:=stC p q g h f sec ns++[.int .i64 1,l]
def chE (p q g h:Nat) (f sec:Int) (N:LP) (P gN cN gl cl:Nat) (X:List Wh):List Ent :=
 ⟨P,136,chC p q g h f sec (AQ gN N.length cN) (agV gl cl X.length X.length)⟩::⟨gN,105,N.flatMap ya++mkz (cN - N.length) (vC 0 0)⟩::(rwL 144 gl (X.flatMap whV) (mkz (cl - X.length) whZ) X.length++X.flatMap whE)
section
variable (p q g h:Nat) (f sec:Int) (ns l:Value) (P:Nat)
theorem vx:Fn Tryz.prog 50 [pt P] (fun w=>Seg w P 0 (chC p q g h f sec ns l)) (Is (.bool true)):=by
 refine Fn.enter Tryz.func50 rfl rfl rfl ?_;intro w hw
 repeat (first|refine WO.does (fe (e:=136) Kr rfl rfl) ?_|refine WO.does (zm (hs:=hw) (hc:=rfl)) ?_|refine WO.does (zO rfl rfl rfl) ?_|refine Tj ?_|intro _|refine Tc ?_|exact Tz)
 done
end
section
variable (p q g h:Nat) (f sec:Int) (ns:Value) (P gl cl n:Nat)
theorem aeT:Fn Tryz.prog 20 [pt P] (fun w=>Seg w P 0 (chC p q g h f sec ns (agV gl cl n n))) (Is (.int .i64 (n:Int))):=by
 have hT:=vx p q g h f sec ns (agV gl cl n n) P;obtain⟨V,hV,pp,c',hVs⟩ : ∃ V,agV gl cl n n=V∧∃ pp c',V=.slice pp n c':=⟨_,rfl,by cases n<;>exact⟨_,_,rfl⟩⟩;rw[hV] at hT ⊢;clear hV;subst hVs;refine Fn.enter Tryz.func20 rfl rfl rfl ?_;intro w hw
 repeat (first|refine WO.does (zm (hs:=hw) (hc:=rfl)) ?_|refine Tj ?_|intro _|refine WO.acallR (hc:=hT) (hR:=fun wx hm=>hw.mod hm.mod Sm) (k:=?_)|refine Tc ?_|exact Tz)
 done
end
section
variable (p q g h F m:Nat) (N:LP) (P gN cN:Nat)
theorem ae (hp:p<ze) (hq:q<ze) (hg:g<ze) (hh:h<ze) (hN:zZ N) (hNl:N.length≤100) (hs:y5 p q g h (F:Int) (m:Int) N=true) :
  Fn Tryz.prog 18 [pt P] (fun w=>Seg w P 0 (chC p q g h (F:Int) (m:Int) (AQ gN N.length cN) (.slice none 0 0))∧RdF ya (AQ gN N.length cN) N w) (Is (.agg (byC (gnH p q g h F m N)).toArray)):=by
 have hT:=vx p q g h (F:Int) (m:Int) (AQ gN N.length cN) (.slice none 0 0) P;have hG:=acp p q g h F m (some ⟨gN,0,none⟩) cN N hp hq hg hh hN hNl hs;have hal:(gnH p q g h F m N).length=32:=by unfold gnH;exact zI _ _
 generalize gnH p q g h F m N=H at *;have hbl:(byC H).length=32:=by rw[zd];exact hal
 refine Fn.enter Tryz.func18 rfl rfl rfl ?_;intro w hw;obtain⟨w1,w2⟩:=hw
 repeat (first|refine WO.does (zm (hs:=w1) (hc:=rfl)) ?_|refine WO.does (zn (vs:=stC p q g h (F:Int) (m:Int) (AQ gN N.length cN)) (hs:=w1) (hc:=rfl)) ?_|refine WO.stores (zo (vs:=byC H) (cs':=byC H) (hl:=hbl) (h1:=zM H) (hc:=zC (by rw[hbl];rfl)) (hle:=by rw[hbl];rfl)) ?_|refine Tj ?_|intro _|refine WO.acallR (hc:=hT) (hR:=fun wx hm=>w1.mod hm.mod Sm) (k:=?_)|refine WO.acallR (hc:=hG) (hR:=fun wx hm=>w2.mod hm.mod) (k:=?_)|refine Tc ?_|exact Tz)
 exact WX.aret1 (hr:=vF (vs:=byC H) (hc:=zt hbl) (hl:=hbl)) (hp:=rfl)
end
def NcP (p q g h:Nat) (f sec:Int) (N:LP):Value→List Ent→Prop:=fun v M=>∃ P gN cN,v=.tuple #[Sx.pt P,.int .i64 0]∧M=chE p q g h f sec N P gN cN 0 0 []
section
variable (p q g h:Nat) (f sec:Int) (pt:Option Addr) (c:Nat) (N:LP)
theorem adc (hp:p<ze) (hq:q<ze) (hg:g<ze) (hh:h<ze) (hN:zZ N) (hNl:N.length≤100) (hf1 : -9223372036854775808≤f) (hf2:f≤9223372036854775807) (hs1 : -9223372036854775808≤sec) (hs2:sec≤9223372036854775807) (hs:y5 p q g h f sec N=true) :
  Fn Tryz.prog 16 [stV p q g h f sec (.slice pt N.length c)] (fun w=>RdF ya (.slice pt N.length c) N w) (NcP p q g h f sec N):=by
 have hS:=yh p q g h f sec pt c N hp hq hg hh hN Om hf1 hf2 hs1 hs2;rw[hs] at hS;have h1:=(zS hs).1;have hC:=abl pt c N Om Om;refine Fn.enter Tryz.func16 rfl rfl rfl ?_;intro w hw
 repeat (first|refine Tj ?_|intro _|refine WO.acallR (hc:=hS) (hR:=fun w1 hm=>(hw.mod hm.mod).rdK) (k:=?_)|refine Tc ?_|exact Tz)
 refine WO.acallX (hc:=hC) (hR:=fun w1 hm=>hw.mod hm.mod) (k:=fun yy hyy=>?_);generalize yy 0=gN;generalize yy 1=cN;simp only[List.cons_append,List.nil_append]
 repeat (first|refine Tk ?_|intro _|exact Tz)
 rename_i gS gP;exact WX.ret2 rfl (zK rfl) (zK rfl) [⟨gP,136,chC p q g h f sec (AQ gN N.length cN) (.slice none 0 0)⟩,⟨gN,105,N.flatMap ya++mkz (cN - N.length) (vC 0 0)⟩] (by repeat (first|exact Lle.nil|refine Lle.m ?_|refine Lle.c ?_)) ⟨gP,gN,cN,rfl,rfl⟩
end
end Sx
end
section
open Go Go.RowKit Go.BigFrame
namespace Sx
attribute [local irreducible] DQ WC WO WT WX yN ddH gnH hOf voH vtS wd
section
variable (gw g c:Nat) (B:LN) (n:Nat)
theorem aam (hn:B.length=n) (hB:n≤100000):FnL Tryz.prog 127 [Sx.pt gw,.slice none 0 0,.func (.func 128) #[Sx.pt gw] #[]] (wrE gw g c B n) Tr (WrP gw (B++be 1 0) (n+1)):=by
 refine FnL.enter Tryz.func127 rfl rfl rfl ?_;intro w _;generalize hG:(wrE gw g c B n).map Ent.g=GS;clear hG;have hc0:IntKind.u64.wrap (0:Int)=((0:Nat):Int):=rfl;unfold wrE
 repeat (first|refine WO.does (yn rfl rfl Dtt) ?_|refine WO.does (vD (r:=((0:Nat):Int)) rfl rfl rfl) ?_|refine WO.does (vA (h:=0) rfl rfl Dtt) ?_|refine WO.does (zr rfl hc0) ?_|refine Tj ?_|intro _|refine Tc ?_|exact Tz)
 refine WO.callsW (A:=[]) (T:=wrE gw g c B n) (hc:=nQ gw g c B n 0 1 (n+1) Dtt Dtt hn hB rfl) rfl tN (fun _ _=>trivial) (fun v N hv=>?_);obtain⟨g1,c1,rfl,rfl,hr⟩:=hv;simp only[List.nil_append]
 repeat (first|refine Tk ?_|intro _|exact Tz)
 refine WC.loopI (σ:=Unit) (fun _=>True) (fun _=>[(31,.int .i64 ((0:Nat):Int)),(32,.int .i64 ((0:Nat):Int))]) (fun _=>wrE gw g1 c1 (B++be 1 0) (n+1)) (fun _=>0) () (fun _ _=>?_) trivial (hl:=Lle.same)
 try dsimp only
 repeat (first|refine Tk ?_|intro _|exact Tz)
 exact WX.retP_ofN (N:=wrE gw g1 c1 (B++be 1 0) (n+1)) (qA rfl) Lle.left' ⟨g1,c1,rfl,rfl,hr⟩
theorem dO (m:Nat) (pH:Option Addr) (cH:Nat) (HL:List (List Nat)) (hcH:HL.length≤cH) (hH:∀ X∈HL,X.length=32) (h0:0<HL.length) (hl:HL.length≤64) (hn:B.length=n) (hB:n≤10000) (hm:n+1+32*HL.length=m) (hp:∀ a,pH=some a→a.block ∉ (wrE gw g c B n).map Ent.g) :
  FnL Tryz.prog 126 [Sx.pt gw,.slice pH HL.length cH,.func (.func 125) #[Sx.pt gw] #[]] (wrE gw g c B n) (RdF byC (.slice pH HL.length cH) HL) (WrP gw (B++be 1 HL.length++HL.flatten) m):=by
 refine FnL.enter Tryz.func126 rfl rfl rfl ?_;intro w hw;generalize hG:(wrE gw g c B n).map Ent.g=GS at *;clear hG;have hcv:IntKind.u64.wrap (HL.length:Int)=((HL.length:Nat):Int):=u64_in Om Om;have hmin:(if (64:Int)<(HL.length:Int) then (64:Int) else (HL.length:Int))=((HL.length:Nat):Int):=by rw[if_neg Om]
 unfold wrE
 repeat (first|refine WO.does (yn rfl rfl Om) ?_|refine WO.does (vD rfl rfl hmin) ?_|refine WO.does (vA (h:=HL.length) rfl rfl hcH) ?_|refine WO.does (zr rfl hcv) ?_|refine Tj ?_|intro _|refine Tc ?_|exact Tz)
 refine WO.callsW (A:=[]) (T:=wrE gw g c B n) (hc:=nQ gw g c B n HL.length 1 (n+1) Dtt Dtt hn Om rfl) rfl tN (fun _ _=>trivial) (fun v N hv=>?_);obtain⟨g1,c1,rfl,rfl,hr⟩:=hv;simp only[List.nil_append]
 repeat (first|refine Tk ?_|intro _|exact Tz)
 refine WC.loopI (σ:=Nat × Nat × Nat) (fun s=>s.1≤HL.length∧(s.2.1≤s.2.1∧n+1+32*s.1≤s.2.2∧s.2.2<9223372036854775808)) (fun s=>[(2,.func (.func 125) #[Sx.pt gw] #[]),(30,.slice pH HL.length cH),(31,.int .i64 (HL.length:Int)),(32,.int .i64 (s.1:Int))])
  (fun s=>wrE gw s.2.1 s.2.2 (B++be 1 HL.length++(HL.take s.1).flatten) (n+1+32*s.1)) (fun s=>HL.length - s.1) (0,g1,c1) (fun s hi=>?_) ⟨Nat.zero_le _,Nat.le_refl _,hr Om⟩ (hl:=by simp only[List.take_zero,List.flatten_nil,List.append_nil,Nat.mul_zero,Nat.add_zero];exact Lle.same)
 obtain⟨i,g2,c2⟩:=s;obtain⟨hi,_,r1,r2⟩:=hi
 try dsimp only at hi r1 r2 ⊢
 have hBl:∀ i,i≤HL.length→(B++be 1 HL.length++(HL.take i).flatten).length=n+1+32*i:=fun i hi=>by
  rw[List.length_append,List.length_append,hn,zj];have:((HL.take i).flatten).length=i*32:=by
   have:=y6 (f:=fun X:List Nat=>byC X) (k:=32) (xs:=HL.take i) (fun X hX=>by rw[zd];exact hH X (List.mem_of_mem_take hX));rw[List.length_take,Nat.min_eq_left hi] at this;rw[← this];clear this
   induction HL.take i with
   | nil=>rfl
   | cons x r ih=>rw[List.flatten_cons,List.length_append,List.flatMap_cons,List.length_append,zd,ih]
  omega
 by_cases hlt:i<HL.length
 ·obtain⟨X,hX⟩ : ∃ X,HL[i]?=some X:=⟨_,List.getElem?_eq_getElem hlt⟩;have hX32:=hH X (List.mem_of_getElem? hX);have hblX:(byC X).length=32:=by rw[zd,hX32]
  obtain⟨b,o,rfl,_,hs⟩:=id hw |>.get hX
  have hbG:=hp _ rfl;have hc2:cut (HL.flatMap byC) (o+i*32 - o) 32=byC X:=by
   rw[Nat.add_sub_cancel_left];exact ve (k:=32) (fun x hx=>by rw[zd,hH x hx]) hX
  have hadd:IntKind.i64.wrap ((i:Int)+1)=((i+1:Nat):Int):=zl Om Om Om;have hB2:=hBl i hi;have hBn:B++be 1 HL.length++(HL.take i).flatten++X=B++be 1 HL.length++(HL.take (i+1)).flatten:=by
   rw[List.take_add_one,hX];simp
  have hkh:=bs gw g2 c2 (B++be 1 HL.length++(HL.take i).flatten) (n+1+32*i) X (n+1+32*(i+1)) hX32 hB2 Om Om (fun _=>⟨r1,r2⟩);rw[hBn] at hkh
  repeat (first|refine Tk ?_|intro _|exact Tz)
  refine WC.dT rfl Om ?_
  repeat (first|refine WO.does (zb (o':=o+i*32) rfl rfl hlt rfl) ?_|refine WO.does (zn (vs:=byC X) (hs:=hs) (hle:=Nat.le_add_right _ _) (hb:=hbG) (hc:=hc2) (hl:=hblX)) ?_|refine WO.stores (zo (vs:=byC X) (cs':=byC X) (hl:=hblX) (h1:=zM X) (hc:=zC (by rw[hblX];rfl)) (hle:=by rw[hblX];rfl)) ?_|refine WO.does (zw (vs:=byC X) (hc:=zt hblX) (hl:=hblX)) ?_|refine Tj ?_|intro _|refine Tc ?_|exact Tz)
  refine WO.callsWV (fs:=[Sx.pt gw]) (cs:=[]) (A:=[_]) (hc:=hkh) rfl rfl rfl rfl tN (fun _ _=>trivial) (fun v N hv=>?_);obtain⟨g3,c3,rfl,rfl,hr3⟩:=hv;simp only[List.singleton_append];obtain⟨r3,r4⟩:=hr3 Om
  repeat (first|refine WO.does (zi rfl rfl hadd) ?_|refine Tj ?_|intro _|refine Tc ?_|exact Tz)
  exact WX.metI (i+1,g3,c3) (hl:=Lle.skp Lle.left') (hs:=⟨⟨by show i+1≤HL.length;omega,Nat.le_refl _,r3,r4⟩,by show HL.length - (i+1)<HL.length - i;omega⟩)
 have hi2:i=HL.length:=by omega
 subst hi2
 repeat (first|refine Tk ?_|intro _|exact Tz)
 refine WC.dF rfl Om ?_
 repeat (first|refine Tk ?_|intro _|exact Tz)
 rw[List.take_length,hm];exact WX.retP_ofN (N:=wrE gw g2 c2 (B++be 1 HL.length++HL.flatten) m) (qA rfl) Lle.left' ⟨g2,c2,rfl,rfl,fun _=>⟨by omega,r2⟩⟩
end
theorem RdF.below {p:Option Addr} {n c:Nat} {HL:List (List Nat)} {w:World} (h:RdF byC (.slice p n c) HL w) (hH:∀ X∈HL,X.length=32) (h0:0<HL.length):∀ a,p=some a→a.block<w.heap.size:=by
 intro a e;subst e;obtain⟨_,_,e,h1⟩:=h;cases e
 rcases h1 with ⟨h1,_⟩|⟨b,o,h1,hs⟩
 ·cases h1
 ·cases h1;cases HL with
  | nil=>cases h0
  | cons X r =>
   have hX:=hH X (List.mem_cons_self ..);cases X with
   | nil=>cases hX
   | cons x xs=>exact Seg.lt1 hs
theorem ab3 {A:List Ent} {gw g c n sz b:Nat} {B:LN} (hmn:∀ e∈A++wrE gw g c B n,sz≤e.g∨e.g∈[gw]) (h1:b<sz) (h2:b<gw):b ∉ (wrE gw g c B n).map Ent.g:=fun h=>by
 obtain⟨e,he,h3⟩:=List.mem_map.1 h
 rcases hmn e (List.mem_append_right _ he) with h4|h4
 ·omega
 ·have h5:=List.mem_singleton.1 h4;omega
def blB (ep:Nat) (ah:LN) (HL OL:List (List Nat)):List Nat:=[]++be 8 ep++ah++be 8 ep++be 1 HL.length++HL.flatten++be 1 0++be 1 OL.length++OL.flatten
def da:ByteArray:=⟨#[98,108,111,99,107]⟩
def blH (ep:Nat) (ah:LN) (HL OL:List (List Nat)):List Nat:=hOf (zN da) [blB ep ah HL OL]
theorem pT {HL:List (List Nat)} (hH:∀ X∈HL,X.length=32):HL.flatten.length=32*HL.length:=by
 induction HL with
 | nil=>rfl
 | cons x r ih =>
  rw[List.flatten_cons,List.length_append,hH x (List.mem_cons_self ..),ih (fun X hX=>hH X (List.mem_cons_of_mem _ hX)),List.length_cons];omega
section
variable (ep:Nat) (ah:LN) (pH pO:Option Addr) (cH cO:Nat) (HL OL:List (List Nat))
theorem adQ (hah:ah.length=32) (hH:∀ X∈HL,X.length=32) (hO:∀ X∈OL,X.length=32):(blB ep ah HL OL).length=51+32*HL.length+32*OL.length:=by
 unfold blB;simp only[List.length_append,zj,List.length_nil,hah,pT hH,pT hO];omega
theorem agO (hab:∀ b∈ah,b<256) (hH:∀ X∈HL,∀ b∈X,b<256) (hO:∀ X∈OL,∀ b∈X,b<256):∀ b∈blB ep ah HL OL,b<256:=by
 unfold blB;intro b hb;simp only[List.mem_append,List.nil_append,List.mem_flatten] at hb
 rcases hb with ((((((hb|hb)|hb)|hb)|hb)|hb)|hb)|hb
 ·exact yZ b hb
 ·exact hab b hb
 ·exact yZ b hb
 ·exact yZ b hb
 ·obtain⟨X,hX,hb⟩:=hb;exact hH X hX b hb
 ·exact yZ b hb
 ·exact yZ b hb
 ·obtain⟨X,hX,hb⟩:=hb;exact hO X hX b hb
variable (hah:ah.length=32) (hH:∀ X∈HL,X.length=32) (hO:∀ X∈OL,X.length=32) (h0:0<HL.length∧HL.length≤64) (h1:0<OL.length∧OL.length≤64) (hcH:HL.length≤cH) (hcO:OL.length≤cO)
include hah hH hO h0 h1 hcH hcO
theorem ahu (gw m:Nat) (hm:51+32*HL.length+32*OL.length=m):FnL Tryz.prog 54 [Sx.pt gw,.agg (bkC ep ah ep (.slice pH HL.length cH) (.slice none 0 0) (.slice pO OL.length cO)).toArray] [⟨gw,217,[.slice none 0 0,.bool false]⟩]
  (fun w=>RdF byC (.slice pH HL.length cH) HL w∧RdF byC (.slice pO OL.length cO) OL w∧(∀ a,pH=some a→a.block<gw)∧∀ a,pO=some a→a.block<gw) (WrP gw (blB ep ah HL OL) m):=by
 have hblA:(byC ah).length=32:=by rw[zd,hah]
 have hf1:=pT hH;have hf2:=pT hO;have b1:([]++be 8 ep:LN).length=8:=by simp[zj]
 have b2:([]++be 8 ep++ah:LN).length=40:=by simp[zj,hah]
 have b3:([]++be 8 ep++ah++be 8 ep:LN).length=48:=by simp[zj,hah]
 have b4:([]++be 8 ep++ah++be 8 ep++be 1 HL.length++HL.flatten:LN).length=49+32*HL.length:=by simp only[List.length_append,zj,hah,hf1,List.length_nil]<;>omega
 have b5:([]++be 8 ep++ah++be 8 ep++be 1 HL.length++HL.flatten++be 1 0:LN).length=50+32*HL.length:=by simp only[List.length_append,zj,hah,hf1,List.length_nil]<;>omega
 refine FnL.enter Tryz.func54 rfl rfl rfl ?_;intro w hw;obtain⟨wH,wO,fH,fO⟩:=hw;have lH:=wH.below hH h0.1;have lO:=wO.below hO h1.1;have far1:∀ a,pH=some a→a.block ∉ [gw]:=fun a e h=>by have:=fH a e;have:=List.mem_singleton.1 h;omega
 have far2:∀ a,pO=some a→a.block ∉ [gw]:=fun a e h=>by have:=fO a e;have:=List.mem_singleton.1 h;omega
 show WC _ w [gw] _ _ _ _ _
 repeat (first|refine Tk ?_|intro _|exact Tz)
 refine WO.callsW (A:=[_]) (T:=wrE gw 0 0 [] 0) (hc:=nQ gw 0 0 [] 0 ep 8 8 Dtt Dtt rfl Dtt rfl) rfl tN (fun _ _=>trivial) (fun v N hv=>?_);obtain⟨g1,c1,rfl,rfl,hr1⟩:=hv;simp only[List.singleton_append]
 repeat (first|refine WO.does (zw (vs:=byC ah) (hc:=afE hah) (hl:=hblA)) ?_|refine Tj ?_|intro _|refine Tc ?_|exact Tz)
 refine WO.callsW (A:=[_]) (T:=wrE gw g1 c1 _ 8) (hc:=bs gw g1 c1 _ 8 ah 40 hah b1 Dtt rfl hr1) rfl tN (fun _ _=>trivial) (fun v N hv=>?_);obtain⟨g2,c2,rfl,rfl,_⟩:=hv;simp only[List.singleton_append]
 repeat (first|refine WO.does (zx (hc:=ny hah 0)) ?_|refine Tj ?_|intro _|refine Tc ?_|exact Tz)
 refine WO.callsW (A:=[_]) (T:=wrE gw g2 c2 _ 40) (hc:=nQ gw g2 c2 _ 40 ep 8 48 Dtt Dtt b2 Dtt rfl) rfl tN (fun _ _=>trivial) (fun v N hv=>?_);obtain⟨g3,c3,rfl,rfl,hr3⟩:=hv;simp only[List.singleton_append]
 repeat (first|refine WO.does (zx (hc:=ny hah 1)) ?_|refine WO.does (zH rfl rfl) ?_|refine Tj ?_|intro _|refine Tc ?_|exact Tz)
 refine WO.mine (fun hmn=>?_);refine WO.callsW (A:=[_]) (T:=wrE gw g3 c3 _ 48) (hc:=dO gw g3 c3 _ 48 (49+32*HL.length) pH cH HL hcH hH h0.1 h0.2 b3 Dtt Om (fun a e=>ab3 (A:=[_]) hmn (lH a e) (fH a e))) rfl tN (fun wx hm=>wH.modF hm.mod far1) (fun v N hv=>?_);obtain⟨g4,c4,rfl,rfl,hr4⟩:=hv;simp only[List.singleton_append]
 repeat (first|refine WO.does (zx (hc:=ny hah 2)) ?_|refine WO.does (zH rfl rfl) ?_|refine Tj ?_|intro _|refine Tc ?_|exact Tz)
 refine WO.callsW (A:=[_]) (T:=wrE gw g4 c4 _ (49+32*HL.length)) (hc:=aam gw g4 c4 _ (49+32*HL.length) b4 Om) rfl tN (fun _ _=>trivial) (fun v N hv=>?_);obtain⟨g5,c5,rfl,rfl,hr5⟩:=hv;simp only[List.singleton_append]
 repeat (first|refine WO.does (zx (hc:=ny hah 3)) ?_|refine WO.does (zH rfl rfl) ?_|refine Tj ?_|intro _|refine Tc ?_|exact Tz)
 refine WO.mine (fun hmn=>?_);refine WO.callsW (A:=[_]) (T:=wrE gw g5 c5 _ (49+32*HL.length+1)) (hc:=dO gw g5 c5 _ (49+32*HL.length+1) m pO cO OL hcO hO h1.1 h1.2 (by rw[b5];omega) Om Om (fun a e=>ab3 (A:=[_]) hmn (lO a e) (fO a e))) rfl tN (fun wx hm=>wO.modF hm.mod far2) (fun v N hv=>?_);obtain⟨g6,c6,rfl,rfl,hr6⟩:=hv;simp only[List.singleton_append]
 repeat (first|refine Tk ?_|intro _|exact Tz)
 exact WX.retP_ofN (N:=wrE gw g6 c6 (blB ep ah HL OL) m) (qA rfl) (Lle.skp Lle.left') ⟨g6,c6,rfl,rfl,hr6⟩
theorem afV (gw gv m:Nat) (hm:51+32*HL.length+32*OL.length=m):FnL Tryz.prog 53 ([Sx.pt gw]++[Sx.pt gv]) [⟨gw,217,[.slice none 0 0,.bool false]⟩]
  (fun w=>(Seg w gv 0 (bkC ep ah ep (.slice pH HL.length cH) (.slice none 0 0) (.slice pO OL.length cO))∧gv<gw)∧RdF byC (.slice pH HL.length cH) HL w∧RdF byC (.slice pO OL.length cO) OL w∧(∀ a,pH=some a→a.block<gw)∧∀ a,pO=some a→a.block<gw) (WrP gw (blB ep ah HL OL) m):=by
 have hbk:=ut (ep:=ep) (cep:=ep) (sD:=.slice pH HL.length cH) (sV:=.slice none 0 0) (sO:=.slice pO OL.length cO) hah;refine FnL.enter Tryz.func53 rfl rfl rfl ?_;intro w hw;obtain⟨⟨hw,hlt⟩,wH,wO,fH,fO⟩:=hw;have far1:∀ a,pH=some a→a.block ∉ [gw]:=fun a e h=>by have:=fH a e;have:=List.mem_singleton.1 h;omega
 have far2:∀ a,pO=some a→a.block ∉ [gw]:=fun a e h=>by have:=fO a e;have:=List.mem_singleton.1 h;omega
 repeat (first|refine WO.does (zn (vs:=bkC ep ah ep (.slice pH HL.length cH) (.slice none 0 0) (.slice pO OL.length cO)) (hs:=hw) (hle:=Nat.zero_le _) (hb:=by simp;omega) (hc:=zt hbk) (hl:=hbk)) ?_|refine Tj ?_|intro _|refine Tc ?_|exact Tz)
 refine WO.callsL (hc:=ahu ep ah pH pO cH cO HL OL hah hH hO h0 h1 hcH hcO gw m hm) (hp:=.cons .here .nil) (fun wx hm=>⟨wH.modF hm.mod far1,wO.modF hm.mod far2,fH,fO⟩) (fun v N hv=>?_);obtain⟨g5,c5,rfl,rfl,hr5⟩:=hv;simp only[List.append_nil]
 repeat (first|refine Tk ?_|intro _|exact Tz)
 exact WX.retP_ofN (N:=wrE gw g5 c5 (blB ep ah HL OL) m) (qA rfl) Lle.left' ⟨g5,c5,rfl,rfl,hr5⟩
theorem jb (sV:Value) (hV:sV.oneCell'=true) (hab:∀ b∈ah,b<256) (hHb:∀ X∈HL,∀ b∈X,b<256) (hOb:∀ X∈OL,∀ b∈X,b<256):Fn Tryz.prog 21 [.agg (bkC ep ah ep (.slice pH HL.length cH) sV (.slice pO OL.length cO)).toArray]
  (fun w=>RdF byC (.slice pH HL.length cH) HL w∧RdF byC (.slice pO OL.length cO) OL w) (Is (.agg (byC (blH ep ah HL OL)).toArray)):=by
 have hbk:=ut (ep:=ep) (cep:=ep) (sD:=.slice pH HL.length cH) (sV:=sV) (sO:=.slice pO OL.length cO) hah;have hbl:(byC (blH ep ah HL OL)).length=32:=by rw[zd];exact zI _ _
 have hBl:=adQ ep ah HL OL hah hH hO
 have hHs:=fun gv=>ic (f:=53) [Sx.pt gv] da (blB ep ah HL OL) (51+32*HL.length+32*OL.length) (fun w=>Seg w gv 0 (bkC ep ah ep (.slice pH HL.length cH) (.slice none 0 0) (.slice pO OL.length cO))∧RdF byC (.slice pH HL.length cH) HL w∧RdF byC (.slice pO OL.length cO) OL w)
  (fun gw w=>(Seg w gv 0 (bkC ep ah ep (.slice pH HL.length cH) (.slice none 0 0) (.slice pO OL.length cO))∧gv<gw)∧RdF byC (.slice pH HL.length cH) HL w∧RdF byC (.slice pO OL.length cO) OL w∧(∀ a,pH=some a→a.block<gw)∧∀ a,pO=some a→a.block<gw)
  (fun w wx gw g1 g2 g3=>⟨⟨g1.1.mod g3 Sm,Nat.lt_of_lt_of_le (Seg.lt1 g1.1) g2⟩,g1.2.1.mod g3,g1.2.2.mod g3,fun a e=>Nat.lt_of_lt_of_le (g1.2.1.below hH h0.1 a e) g2,fun a e=>Nat.lt_of_lt_of_le (g1.2.2.below hO h1.1 a e) g2⟩) Dtt hBl Om Om (agO ep ah HL OL hab hHb hOb) (fun gw=>afV ep ah pH pO cH cO HL OL hah hH hO h0 h1 hcH hcO gw gv _ rfl)
 rw[show hOf (zN da) [blB ep ah HL OL]=blH ep ah HL OL from rfl] at hHs;generalize blH ep ah HL OL=HS at *;refine Fn.enter Tryz.func21 rfl rfl rfl ?_;intro w hw;obtain⟨w1,w2⟩:=hw
 repeat (first|refine WO.stores (zo (vs:=[.slice none 0 0]) (cs':=bkC ep ah ep (.slice pH HL.length cH) (.slice none 0 0) (.slice pO OL.length cO)) (hc:=dM hah) (hle:=by rw[ut hah];rfl)) ?_|refine WO.does (zH rfl rfl) ?_|refine Tj ?_|intro _|refine Tc ?_|exact Tz)
 rename_i gv gR;refine WO.acallR (hc:=hHs gv) (hR:=fun wx hm=>⟨Hs.sg hm,w1.mod hm.mod,w2.mod hm.mod⟩) (k:=?_)
 repeat (first|refine Tj ?_|intro _|refine WO.stores (zo (vs:=byC HS) (cs':=byC HS) (hl:=hbl) (h1:=zM HS) (hc:=zC (by rw[hbl];rfl)) (hle:=by rw[hbl];rfl)) ?_|refine Tc ?_|exact Tz)
 exact WX.aret1 (hr:=vF (vs:=byC HS) (hc:=zt hbl) (hl:=hbl)) (hp:=rfl)
end
theorem fill_whole {ep cep:Nat} {ah:LN} {sD sV sO l o s:Value} (h:ah.length=32) (h2:cellsOf (.agg #[l,o,s])=[l,o,s]):ui (nth [(0,37),(37,3)]) whZ [(0,.agg (bkC ep ah cep sD sV sO).toArray),(1,.agg #[l,o,s])]=some (whC ep ah cep sD sV sO l o s):=by
 have hb:(bkC ep ah cep sD sV sO).length=37:=ut h;rw[yx (off:=0) (size:=37) (vs:=bkC ep ah cep sD sV sO) rfl (by simp[cellsOf]) hb rfl]
 rw[show over whZ 0 (bkC ep ah cep sD sV sO)=bkC ep ah cep sD sV sO++[.slice none 0 0,.slice none 0 0,.slice none 0 0] from by
  show over (bkZ++[.slice none 0 0,.slice none 0 0,.slice none 0 0]) 0 _=_;rw[tV (by rw[hb];rfl)]]
 rw[yx (off:=37) (size:=3) (vs:=[l,o,s]) rfl h2 rfl (by rw[List.length_append,hb];rfl)];show some (over _ (37+0) _)=_;rw[vc hb];exact congrArg some aeD
theorem aeE {cs:LV} (hl:cs.length=40):ui (fun i=>some (i*whZ.length,whZ.length)) (mkz 1 whZ) [(0,.agg cs.toArray)]=some cs:=by
 rw[yx (off:=0) (size:=40) (vs:=cs) rfl (by simp[cellsOf]) hl rfl];show some (over (whZ++[]) 0 cs)=_;rw[tV (by rw[hl];rfl),List.append_nil]
theorem abb {a b c d e f:Ent} {W A R:List Ent}:(a::b::c::d::e::f::(W++(A++R))).Perm (e::f::a::((W++R++A)++[b,c,d])):=by
 classical
 rw[List.perm_iff_count];intro x;simp only[List.count_cons,List.count_append,List.count_nil];omega
section
variable (p q g h:Nat) (f sec:Int) (N:LP) (P gN cN gl cl:Nat) (X:List Wh) (A:List Ent) (ep:Nat) (ah:LN) (pH pV pO pD pS:Option Addr) (cH cV cO cD cS:Nat) (HL:List (List Nat)) (VL:List Vt) (OL:List (List Nat)) (T:List (Dd × Dk)) (SH:List Sw)
theorem nZ (HdR ChkR:World→Prop) (hd:LN) (hah:ah.length=32) (hdl:hd.length=32) (hn:X.length<16) (hep:ep=X.length+1) (hcl:0<X.length→X.length≤cl∧cl<9223372036854775808) (hX:∀ x∈X,x.ah.length=32)
  (hHd:Fn Tryz.prog 18 [pt P] HdR (Is (.agg (byC hd).toArray)))
  (hCk:Fn Tryz.prog 25 [stV p q g h f sec (AQ gN N.length cN),.agg (byC hd).toArray,.agg (bkC ep ah ep (.slice pH HL.length cH) (.slice pV VL.length cV) (.slice pO OL.length cO)).toArray,evV (.slice pD T.length cD) (.slice none 0 0) (.slice pS SH.length cS)] ChkR (Is (.int .i64 0)))
  (h1:0<HL.length∧HL.length≤1000) (h1b:∀ X∈HL,X.length=32) (h2:0<VL.length∧VL.length≤1000) (h2b:∀ x∈VL,x.S.length=32) (h3:0<OL.length∧OL.length≤1000) (h3b:∀ X∈OL,X.length=32)
  (h4:0<T.length∧T.length≤1000) (h4b:∀ y∈T,fG y.1) (h5:0<SH.length∧SH.length≤1000) (h5b:∀ x∈SH,0<x.P.length∧x.P.length≤1000)
  (hA:∀ w,uY w→(∀ e∈chE p q g h f sec N P gN cN gl cl X++A,e.ok w)→HdR w∧ChkR w∧RdF byC (.slice pH HL.length cH) HL w∧RdF vtC (.slice pV VL.length cV) VL w∧RdF byC (.slice pO OL.length cO) OL w∧EvR ep pD cD T none 0 [] pS cS SH w)
  (h0:0 ∉ (chE p q g h f sec N P gN cN gl cl X++A).map Ent.g) :
  FnL Tryz.prog 19 [pt P,.agg (bkC ep ah ep (.slice pH HL.length cH) (.slice pV VL.length cV) (.slice pO OL.length cO)).toArray,evV (.slice pD T.length cD) (.slice none 0 0) (.slice pS SH.length cS)] (chE p q g h f sec N P gN cN gl cl X++A) uY
   (fun v L=>∃ T',L=T'++A∧v=.int .i64 0∧∃ gl' cl' y,T'=chE p q g h f sec N P gN cN gl' cl' (X++[y])∧WhI y∧WhD y ep ah HL VL OL T SH∧X.length+1≤cl'∧cl' < 9223372036854775808):=by
 have hT:=vx p q g h f sec (AQ gN N.length cN) (agV gl cl X.length X.length) P;have hW:=dI ep ah ep pH pV pO pD pS cH cV cO cD cS HL VL OL T SH hah h1 h1b h2 h2b h3 h3b h4 h4b h5 h5b;obtain⟨n,hXn⟩ : ∃ n,X.length=n:=⟨_,rfl⟩;rw[hXn] at hn hep hcl hT ⊢;have hcv:IntKind.u64.wrap (n:Int)=(n:Int):=by show (n:Int)%18446744073709551616=_;omega
 have hadd:IntKind.u64.wrap ((n:Int)+1)=(n:Int)+1:=by show ((n:Int)+1)%18446744073709551616=_;omega
 have hbk:=ut (ep:=ep) (cep:=ep) (sD:=.slice pH HL.length cH) (sV:=.slice pV VL.length cV) (sO:=.slice pO OL.length cO) hah;refine FnL.enter Tryz.func19 rfl rfl rfl ?_;intro w hw;have hrd:=fun wx (hm:Mod ((chE p q g h f sec N P gN cN gl cl X++A).map Ent.g) w wx) (ho:∀ e∈chE p q g h f sec N P gN cN gl cl X++A,e.ok wx)=>hA wx (hw.mod hm h0) ho;clear hA;obtain⟨V,hV,hVn⟩ : ∃ V,agV gl cl n n=V∧∃ pp c',V=.slice pp n c':=⟨_,rfl,by cases n<;>exact⟨_,_,rfl⟩⟩;have hmem:∀ e∈chE p q g h f sec N P gN cN gl cl X++A,e∈⟨P,136,chC p q g h f sec (AQ gN N.length cN) V⟩::⟨gN,105,N.flatMap ya++mkz (cN - N.length) (vC 0 0)⟩::(rwL 144 gl (X.flatMap whV) (mkz (cl - n) whZ) n++(X.flatMap whE++A)):=fun e he=>by
  unfold chE at he;rw[hXn,hV] at he;simpa only[List.cons_append,List.append_assoc] using he
 refine WC.permL (L':=⟨P,136,chC p q g h f sec (AQ gN N.length cN) V⟩::⟨gN,105,N.flatMap ya++mkz (cN - N.length) (vC 0 0)⟩::(rwL 144 gl (X.flatMap whV) (mkz (cl - n) whZ) n++(X.flatMap whE++A))) (by
  unfold chE;rw[hXn,hV];simp only[List.cons_append,List.append_assoc];exact .refl _) ?_
 generalize hG:(chE p q g h f sec N P gN cN gl cl X++A).map Ent.g=GS at *;obtain⟨pp,c',rfl⟩:=hVn;obtain⟨R,hR⟩ : ∃ R,⟨gN,105,N.flatMap ya++mkz (cN - N.length) (vC 0 0)⟩::(rwL 144 gl (X.flatMap whV) (mkz (cl - n) whZ) n++(X.flatMap whE++A))=R:=⟨_,rfl⟩;rw[hR] at hmem ⊢;rw[hV] at hT
 repeat (first|refine WO.does (zY rfl rfl Om) ?_|refine Tj ?_|intro _|refine WO.acallR (hc:=hT) (hR:=fun wx hm=>Hs.sg hm) (k:=?_)|refine Tc ?_|exact Tz)
 rename_i gB gE;refine WC.adraw 10 (k:=?_)
 iterate 10 (first|refine DQ.does (fun s _=>zr rfl hcv) Dp.const ?_|refine DQ.does (fun s _=>zi rfl rfl hadd) Dp.const ?_|refine DQ.does (fun s _=>zA rfl rfl Om) Dp.const ?_|refine Da ?_|refine Dc ?_)
 refine DQ.anil (k:=?_);intro sx _
 repeat (first|refine Tk ?_|intro _|exact Tz)
 refine WC.adraw 9 (k:=?_)
 iterate 9 (first|refine DQ.does (fun s _=>zw (vs:=stC p q g h f sec (AQ gN N.length cN)) (hc:=rfl)) Dp.const ?_|refine DQ.acallR (hc:=hHd) (hR:=fun wx hm=>(hrd wx hm.mod fun e he=>hm.ok e (by have:=hmem e he;repeat (first|exact this|apply List.mem_cons_of_mem))).1) (k:=?_)|refine DQ.does (fun s _=>zw (vs:=bkC ep ah ep (.slice pH HL.length cH) (.slice pV VL.length cV) (.slice pO OL.length cO)) (hc:=zt hbk) (hl:=hbk)) Dp.const ?_|refine DQ.acallR (hc:=hCk) (hR:=fun wx hm=>(hrd wx hm.mod fun e he=>hm.ok e (by have:=hmem e he;repeat (first|exact this|apply List.mem_cons_of_mem))).2.1) (k:=?_)|refine Da ?_|refine Dc ?_)
 refine DQ.anil (k:=?_);intro sx _
 repeat (first|refine WO.does (zA rfl rfl rfl) ?_|refine Tj ?_|intro _|refine Tc ?_|exact Tz)
 refine WC.mainV [8,9,10,13] [(0,pt P),(1,pt P),(2,pt P),(3,.pointer (some ⟨P,20,none⟩)),(4,.slice pp n c'),(5,.agg (bkC ep ah ep (.slice pH HL.length cH) (.slice pV VL.length cV) (.slice pO OL.length cO)).toArray),(6,evV (.slice pD T.length cD) (.slice none 0 0) (.slice pS SH.length cS)),(7,.agg (whC ep ah ep (.slice pH HL.length cH) (.slice pV VL.length cV) (.slice pO OL.length cO) (.slice pD T.length cD) (.slice none 0 0) (.slice pS SH.length cS)).toArray),(11,pt P),(12,.pointer (some ⟨P,20,none⟩))] Dtt ?_
 refine WT.with [⟨gE,59,[.slice pD T.length cD,.slice none 0 0,.slice pS SH.length cS]⟩,⟨gB,75,bkC ep ah ep (.slice pH HL.length cH) (.slice pV VL.length cV) (.slice pO OL.length cO)⟩,⟨P,136,chC p q g h f sec (AQ gN N.length cN) (.slice pp n c')⟩] Kr
  (Tlv.auto (Tlv.auto (Tlv.auto (Tlv.auto (Tlv.auto (Tlv.d rfl (zw (vs:=bkC ep ah ep (.slice pH HL.length cH) (.slice pV VL.length cV) (.slice pO OL.length cO)) (hc:=zt hbk) (hl:=hbk)) (Tlv.auto (Tlv.d rfl (uL rfl (fill_whole hah rfl)) (Tlv.auto (Tlv.auto Tlv.nil))))))))))
  (fun hc hT=>?_)
 refine WT.one (m:=8) rfl hc hT ?_;refine WO.callsL (hc:=Fn.toL hW) (hp:=.nil) (hR:=fun wx hm=>(hrd wx hm.mod fun e he=>hm.ok e (by have:=hmem e he;repeat (first|exact this|apply List.mem_cons_of_mem))).2.2) (k:=fun v1 N1 hv=>?_);obtain⟨gh,rh,gv,rv,go,ro,gD,rl,gs,rs,T',S',M,rfl,rfl,hT',hS',hSc,hM,hM2⟩:=hv;have hTl:T'.length=T.length:=by have:=congrArg List.length hT';simpa using this
 have hSl:S'.length=SH.length:=by have:=congrArg List.length hS';simpa using this
 obtain⟨y,hy⟩ : ∃ y:Wh,y=⟨ep,ah,HL,VL,OL,T',S',gh,rh,gv,rv,go,ro,gD,rl,gs,rs,M⟩:=⟨_,rfl⟩;have hyV:whC ep ah ep (AQ gh HL.length HL.length) (AQ gv VL.length VL.length) (AQ go OL.length OL.length) (AQ gD T.length T.length) (.slice none 0 0) (AQ gs SH.length SH.length)=whV y:=by
  rw[hy];unfold whV;rw[hTl,hSl]
 have hyE:(⟨gh,70,HL.flatMap byC++mkz rh hzC⟩::⟨gv,140,VL.flatMap vtC++mkz rv vtZ⟩::⟨go,70,OL.flatMap byC++mkz ro hzC⟩::⟨gD,51,T'.flatMap (ddC ep)++mkz rl dzC⟩::⟨gs,53,S'.flatMap swC++mkz rs swZ⟩::M:List Ent)=whE y:=by rw[hy];rfl
 have hyI:WhI y:=by rw[hy];exact⟨hah,hM,hM2⟩
 have hyD:WhD y ep ah HL VL OL T SH:=by rw[hy];exact⟨rfl,rfl,rfl,rfl,rfl,hT',hS'⟩
 have hyl:(whV y).length=40:=by rw[← hyV];exact y9 hah
 have hy1:(whV y).all Value.oneCell'=true:=by rw[← hyV];exact dD rfl rfl rfl rfl rfl rfl
 have hXl:(X.flatMap whV).length=n*40:=by rw[← hXn];exact y6 fun x hx=>y9 (hX x hx)
 rw[hyV,hyE];clear hyV hyE hy;subst hR;refine WO.swap ?_;simp only[List.cons_append,List.append_assoc];refine WO.nil (WX.wt [(50,.agg (whV y).toArray)] ?_);refine WT.one (m:=9) rfl hc hT ?_;refine WO.makes (zh (cs:=whV y) rfl Dtt (aeE hyl)) ?_;intro gS;refine WO.nil (WX.wt [(51,AQ gS 1 1)] ?_);refine WT.one (m:=10) rfl hc hT ?_;refine WO.appR (z:=whZ) (B:=X.flatMap whV) (ys:=whV y) (m:=1) (n:=n) (l:=n+1) (g:=gl) (c:=cl) (L1:=[_,_,_,_,_]) rfl (by rw[hV];rfl) rfl rfl hXl hcl (Rds.own (m:=40) Hs.a (zt hyl)) hyl hy1 Dtt rfl Om Om Dtt Dtt (fun g1 c1 a2 a3=>?_);refine WO.nil (WX.wt [(52,AQ g1 (n+1) c1)] ?_);simp only[List.cons_append,List.nil_append];refine WT.one (m:=13) rfl hc hT ?_;refine WO.stores (zo (vs:=[AQ g1 (n+1) c1]) (cs':=chC p q g h f sec (AQ gN N.length cN) (AQ g1 (n+1) c1))) ?_;refine WO.nil (WX.wt [] ?_);refine WT.fin [13] 5 hc rfl Kr ?_;clear hc hT;refine WX.seq ?_;refine WC.permL (L':=(chE p q g h f sec N P gN cN g1 c1 (X++[y])++A)++[⟨gS,144,whV y⟩,⟨gE,59,[.slice pD T.length cD,.slice none 0 0,.slice pS SH.length cS]⟩,⟨gB,75,bkC ep ah ep (.slice pH HL.length cH) (.slice pV VL.length cV) (.slice pO OL.length cO)⟩]) (by
  have hn1:(X++[y]).length=n+1:=by rw[List.length_append,hXn];rfl
  unfold chE;rw[hn1];simp only[List.flatMap_append,List.flatMap_cons,List.flatMap_nil,List.append_nil];exact abb) ?_
 repeat (first|refine Tk ?_|intro _|exact Tz)
 exact WX.retP_of (N:=chE p q g h f sec N P gN cN g1 c1 (X++[y])++A) (abT rfl (zK rfl)) Lle.left ⟨_,rfl,rfl,g1,c1,y,rfl,hyI,hyD,a3,a2⟩
end
end Sx
end
section
open Go Go.RowKit Go.BigFrame
namespace Sx
end Sx
end
end Go.Proofs.YtiaibpcaloigkaaGreatDoor
