/- Walks: a script (reference). -/
import Derived.Test.YtggfdnopminemaaGreatDoorDrawSs
import Derived.Test.YtggfdnopminemaaGreatDoorSesS1
set_option linter.all false
namespace Go.Proofs.YtggfdnopminemaaGreatDoor
open Go.Proofs.Tryz
open Go Go.RowKit
set_option maxHeartbeats 8000000
set_option maxRecDepth 100000
theorem b7m (u us:Value) (l:P.Dic) (st:List Int) (sc d p:Str) (n:Int) (text:Str) (w:World) (hu:EntR w u l) (hus:IntR w us st) (hf:P.Fit (l,(st,sc)) (d,p,n)) (hl:text.length<=2^20) (hE:L.Env w) :
 Cz 39 #[a1b u us sc d p n,.string (S text)] w (a6y (P.script (l,(st,sc)) (d,p,n) text) w):=by
 obtain⟨i0,hi,hj0,hj1,hj2⟩:=info_parts L.a7r;have HF:=qh hf;obtain⟨hf1,hf2,hf3,hf4,hf5,hf6⟩:=hf;have hm:Small l:=⟨hf1,hf2,hf3⟩;simp only at hf4 hf5 hf6;clear hf1 hf2 hf3;have hu0:=hu;have hus0:=hus;obtain⟨ad,cap,rfl,_,_⟩:=hu0;obtain⟨sd,sap,rfl,_,_⟩:=hus0;obtain⟨W0,hW0⟩:∃v,w.alloc (a0f (.slice ad l.length cap) (.slice sd st.length sap) sc d p n)=v:=⟨_,rfl⟩;have hb0:Bl w W0:=by rw [<-hW0];exact (Below.refl w.heap.size w).alloc lZ _
 have hx0:SOut w.heap.size (.slice ad l.length cap) (.slice sd st.length sap) sc d p n W0:=by rw [<-hW0];exact SOut.new _ _ _ _ _ _ _
 refine zm64 ?_;intro HU HUS HE HX HB HPL HNO HYES hzW;clear hx0 hb0 hu hus hE;go_enter func39,ntmps39;go_upto_region 1 with fail;try rw [hW0]
 clear hW0;have HOUT:Hq (a0m W0.heap.size (W0.alloc (.cells #[] 9)) (.slice (some ⟨W0.heap.size,0,none⟩) 0 0) []):=⟨by have h:=World.ownsRow_lit (base:=W0.heap.size) (e:=9) (size:=1) W0 #[] 0 lZ (Nat.zero_le _) sZ;simpa [a0m,a2b] using h⟩;have hba:=(Below.refl W0.heap.size W0).alloc lZ (.cells #[] 9);have HXA:=qh (HX.o.below hba);have HBA:=bt HB hba;have hzA:W0.heap.size<(W0.alloc (.cells #[] 9)).heap.size:=by simp
 clear hba HX HB;go_upto_region 2 with fail;generalize W0.alloc (.cells #[] 9)=W1 at *;go_wp2_with fail;refine (a4g text 10 _ oZ).mono ?_;rintro e w1 ⟨v,rfl,hst0,hb⟩;obtain⟨g,gc,rfl,hg,hst⟩:=a3s hst0 (P.a2k 10 text);have HX1:=qh (HXA.o.below hb);have HB1:=bt HBA hb;have HST:=qh hst;have HO1:=qh (a0i HOUT.o hb lZ);have hz1:W0.heap.size<w1.heap.size:=Nat.lt_of_lt_of_le hzA hb.size;have hgB:W0.heap.size<g:=Nat.lt_of_lt_of_le hzA hg;clear hst hst0 hb HXA HBA HOUT;generalize hls:P.split 10 text=ls at *;clear hls;obtain⟨⟨o0,o1,o2,o3,o4,o5,o6⟩,_⟩:=HX1.o;go_wp2_with fail;refine (c5i _ _ l st sc d p n _ (HU.o.below HB1.o) (HUS.o.below HB1.o) hm hf5 hf6).mono ?_;rintro e w2 ⟨rfl,hb⟩;have HX2:=qh (HX1.o.below hb);have HB2:=bt HB1 hb;have HST2:=qh (HST.o.below hb);have HO2:=qh (a0i HO1.o hb lZ);have hz2:W0.heap.size<w2.heap.size:=Nat.lt_of_lt_of_le hz1 hb.size;clear hb HX1 HB1 HST HO1 o0 o1 o2 o3 o4 o5 o6;have HBAD:Hq ((P.sess l st sc d p n=false\/30<ls.length\/4000<text.length)->a6y (P.script (l,(st,sc)) (d,p,n) text) w (.returned (.tuple #[.slice (some ⟨W0.heap.size,0,none⟩) 0 0,.bool false])) w2):=⟨λh=>by rw [HNO.o h];exact⟨_,rfl,a1x HO2.o oZ,HB2.o⟩⟩
 cases h1:P.sess l st sc d p n
 .go_wp2;go_ret2;exact HBAD.o (.inl h1)
 by_cases h3:4000<text.length
 .have i3:(4000:Int)<(text.length:Int):=by omega
  go_wp2;go_ret2;exact HBAD.o (.inr (.inr h3))
 by_cases h2:30<ls.length
 .have i3:¬(4000:Int)<(text.length:Int):=by omega
  have i2:(30:Int)<(ls.length:Int):=by omega
  go_wp2;go_ret2;exact HBAD.o (.inr (.inl h2))
 have i2:¬(30:Int)<(ls.length:Int):=by omega
 have i3:¬(4000:Int)<(text.length:Int):=by omega
 have HP:=qh (HYES.o h1 oZ oZ)
 have HR0:=qh (show RunB w W0.heap.size W0.heap.size 0 (.slice ad l.length cap) (.slice sd st.length sap) (l,(st,sc)) [] (.slice ad l.length cap) (.slice sd st.length sap) (l,(st,sc)) (d,p,n) w2 from⟨HO2.o,HX2.o,.inl ⟨rfl,rfl,rfl,rfl⟩,HB2.o,by omega,Nat.le_refl _,by omega⟩)
 clear HX2 HB2 HNO HYES HBAD HO2 h1
 go_wp2
 go_loopw [6,8,9] (λv r i wr=>∃(j:Nat) (s1:P.Ses) (g1:P.LogT) (ws:List Str) (B cp:Nat) (u1 us1:Value),j<=ls.length/\i=.int .i64 j/\(∃x,r=.string (S x))/\v=.slice (some ⟨B,0,none⟩) ws.length cp/\B≠g/\P.runX ((l,(st,sc)),(d,p,n)) (ls.take j)=((s1,g1),ws)/\ws.length=j/\P.Fit s1 g1/\RunB w W0.heap.size B cp (.slice ad l.length cap) (.slice sd st.length sap) (l,(st,sc)) ws u1 us1 s1 g1 wr/\a4l g ls wr) (λ_ _ i _=>ls.length-(intOf i).toNat)
 case atStart=>exact⟨0,_,_,[],_,0,_,_,Nat.zero_le _,rfl,⟨[],rfl⟩,rfl,by omega,rfl,rfl,HF.o,HR0.o,HST2.o⟩
 case round=>
  obtain⟨j,s1,g1,ws,B,cp,u1,us1,hj,rfl,⟨r0,rfl⟩,rfl,hBg,hrun,hwl,hfit,hI,hst⟩:=hrel;have HRUN:=qh hrun;have HFIT:=qh hfit;have HI:=qh hI;have HST:=qh hst;have hBz:=hI.lo;clear hrun hfit HR0 HST2 hI;have HWL:=qh hwl;have hwle:ws.length<=30:=by omega
  clear hwl
  by_cases hlt:j<ls.length
  .have c0:=hst.2 j hlt;have i1:(j:Int)<(ls.length:Int):=by omega
   have hxl:=HPL.o j hlt;have HNX:=qh (P.c1l hlt HRUN.o);have HFX:=qh (P.c6k (line:=ls[j]) HFIT.o);have hlt0:=hst.1.1;generalize ls[j]=x at *;obtain⟨l1,st1,sc1⟩:=s1;obtain⟨d1,p1,n1⟩:=g1;obtain⟨hre,hri⟩:=HI.o.rows.read HU.o HUS.o HI.o.bel;have HRE:=qh (hre.below bZ.drew);have HRI:=qh (hri.below bZ.drew);obtain⟨ua,uc,rfl,_,_⟩:=id hre;obtain⟨ia,ic,rfl,_,_⟩:=id hri;simp only at HRE HRI;have HID:=qh (HI.o.below bZ.drew);have HSTD:=qh (HST.o.below bZ.drew);have hzd:B<wr.drew.heap.size:=hBz.2.2;obtain⟨⟨⟨⟨l2,st2,sc2⟩,d2,p2,n2⟩,rep⟩,hq⟩:∃q,P.exec (l1,(st1,sc1)) (d1,p1,n1) x=q:=⟨_,rfl⟩;have HEX:=qh hq;rw [hq]at HNX HFX;simp only at HNX HFX;clear hq;have HXD:=qh (show SOut w.heap.size (.slice ua l1.length uc) (.slice ia st1.length ic) sc1 d1 p1 n1 wr.drew/\wr.drew.cell? ⟨g,j,none⟩=some (.string (S x))/\g<wr.drew.heap.size from⟨HID.o.box,c0,hlt0⟩);clear hre hri hst HI HST c0
   go_upto_region 9 with fail
   go_cut [8] (λrv wx=>rv=.string (S rep)/\(∃u2 us2,RunB w W0.heap.size B cp (.slice ad l.length cap) (.slice sd st.length sap) (l,(st,sc)) ws u2 us2 (l2,(st2,sc2)) (d2,p2,n2) wx)/\a4l g ls wx)
   case first=>
    refine Left.region [8,9,10] (S:=λv=>SOut w.heap.size (.slice ua l1.length uc) (.slice ia st1.length ic) sc1 d1 p1 n1 v/\v.cell? ⟨g,j,none⟩=some (.string (S x))/\g<v.heap.size) kZ HXD.o (λhS0=>?_);generalize wr.drew=y0 at *;refine lk18 0 hS0 ?_;refine lk18 1 hS0 ?_;refine lk18 2 hS0 ?_;refine lk18 3 (v:=.pointer (some ⟨g,j,none⟩)) hS0 ?_;refine lk18 4 hS0 ?_;refine lrd 5 λK hK=>?_;go_simp;refine (b3q _ _ l1 st1 sc1 d1 p1 n1 x _ HRE.o HRI.o HFIT.o oZ (HE.o.below HID.o.bel HE.o.size)).mono ?_;rintro e w4 ⟨nu,nus,B2,rfl,hrows,hb⟩;rw [HEX.o]at hrows⊢;simp only at hrows⊢;have HI4:=qh (HID.o.below hb);have HST4:=qh (HSTD.o.below hb);have hz4:=hb.size;have HI5:=qh (HI4.o.store (g2:=(d2,p2,n2)) (s2:=(l2,(st2,sc2))) hrows hzd);obtain⟨na,nc,rfl,_,_⟩:=id hrows.dic;obtain⟨ma,mc,rfl,_,_⟩:=id hrows.str;refine a1o hK dZ ⟨hS0.1.below hb,(hb.cell (p:=⟨g,j,none⟩) hS0.2.2).trans hS0.2.1,Nat.lt_of_lt_of_le hS0.2.2 hb.size⟩ (λhS1=>?_);clear hK K hb hS0 hrows;refine zm0 ?_;refine lk18 6 hS1 ?_;obtain⟨w5,hw5⟩:∃v,wr6 w4 w.heap.size (.slice na l2.length nc) (.slice ma st2.length mc) sc2 d2 p2 n2=v:=⟨_,rfl⟩;have hc5:Chg (λb=>b=w.heap.size) w4 w5:=by rw [<-hw5];exact a3m _ _ _ _ _ _ _ _
    have HST5:Hq (a4l g ls w5):=⟨HST4.o.a0b hc5 oZ⟩;simp only at HI5;rw [hw5]at HI5;obtain⟨⟨r0,r1,r2,r3,r4,r5,r6⟩,f0,f1,f2,f3,f4,f5⟩:=HI4.o.box;clear hc5 HST4;unfold wr6 at hw5;refine Left.ready (rs:=[7,8]) kZ sZ ?_;refine b0r.cons rfl (λK hK=>?_) (b0r.cons rfl (λK hK=>?_) b0r.nil)
    .skip;go_simp;refine a1o hK dZ hS1 (λ_=>?_);clear hK K;refine zm0 ?_;refine Left.ready (rs:=[8,9]) kZ sZ ?_;refine b0r.cons rfl (λK hK=>?_) (b0r.cons rfl (λK hK=>?_) b0r.nil)
     .skip;go_simp;refine a2m hK dZ ?_;exact zq185
     .skip;go_simp;refine a2m hK dZ ?_;clear hK K;try rw [hw5]
      refine zm0 ?_;refine lrd 8 λK hK=>?_;go_simp;refine a2m hK dZ ?_;clear hK K;exact zq21
    .skip;go_simp;refine a2m hK dZ ?_;clear hK K;refine zm0 ?_;refine lrd 7 λK hK=>?_;go_simp;refine a1o hK dZ hS1 (λ_=>?_);exact zq185
   case rest=>
    obtain⟨rfl,⟨u2,us2,hI5⟩,hst5⟩:=hcut;generalize hww:wc=w5 at *;have HI5:=qh hI5;have HST5:=qh hst5;have hz5:=hI5.bel.size;have hlo5:=hI5.lo;clear hww hI5 hst5
    go_upto_region 10 with fail
    have HOA:Hq ((w5.alloc (.cells #[.string (S rep)] 9)).ownsRow W0.heap.size 9 1 (.slice (some ⟨B,0,none⟩) ws.length cp) ws.length (a2b ws)):=⟨World.ownsRow.alloc HI5.o.own _⟩
    go_wp2_with (at_builtin;refine wpList_append_lies _ rfl _ _ 43 rfl W0.heap.size 9 i0 (.string ⟨#[]⟩) 1 16 underlying43 hi hj0 hj1 hj2 rfl dZ (.slice (some ⟨B,0,none⟩) ws.length cp) ws.length (a2b ws) rfl HOA.o ⟨w5.heap.size,0,none⟩ 1 1 [.string (S rep)] rfl rfl ?c1 ?c2 (Nat.zero_lt_one) ?c3 ?c4 ?c5 _ rfl ?_)
    try case c1=>intro j u hj;match j,hj with|0,hj=>(simp at hj;subst hj;simp [Addr.add])
    case c2=>first|rfl|(intro u hu;simp at hu;subst hu;rfl)
    case c3=>unfold maxLen;omega
    case c4=>omega
    case c5=>first|omega|(simp;omega)
    intro B' cap' w6 hown hgr hat hlt6;have HI6:=qh (HI5.o.snoc (x:=rep) hown hgr (by rcases hat with e|e;exact .inl e;exact .inr (by simpa using e)) hlt6);have HST6:Hq (a4l g ls w6):=⟨(HST5.o.below ((Below.refl w5.heap.size w5).alloc lZ (.cells #[.string (S rep)] 9))).a0b (a3w hgr) (λe=>by have h9:some B=some g:=e;injection h9 with h9;omega)⟩;have hB6:B'≠g:=by rcases hat with e|e;exact (by have h9:some B=some B':=e;injection h9 with h9;omega);exact (by have h9:=HST5.o.1.1;(try simp at e);omega)
    clear hown hgr hat HOA HI5 HST5;go_wp2
    go_roundw
    case rel=>exact⟨j+1,_,_,ws++[rep],B',cap',_,_,by omega,by go_num,⟨_,rfl⟩,by rw [List.length_append];rfl,hB6,HNX.o,by rw [List.length_append,HWL.o];rfl,HFX.o,HI6.o,HST6.o⟩
    case measure=>exact zq
  .exact zq60
theorem vBig (v:Value) (n:Nat) (ad:Option Addr) (cap:Nat) (hv:v=.slice ad n cap) (hn:n<=maxLen) (w:World) :
 Cz 10 #[v] w λe w'=>e=.returned (.bool (decide (65536<n)))/\w=w':=by
 subst hv
 unfold maxLen at hn
 go_enter func10,ntmps10
 by_cases h:65536<n
 .have h1:(65536:Int)<(n:Int):=by omega
  go_wp2;go_ret;exact⟨by simp [h],rfl⟩
 .have h1:¬(65536:Int)<(n:Int):=by omega
  go_wp2;go_ret;exact⟨by simp [h],rfl⟩
def c8d (b g:Nat) (u us:Value) (sc d p:Str) (n:Int) (x:Str) (v:World):Prop:=SBox b u us sc d p n v/\v.cell? ⟨g,0,none⟩=some (.string (S x))/\g<v.heap.size
theorem c9n (v:Value) (wz:World) (hc:d1m wz v) (hE:L.Env wz) :
 Cz 9 #[v] wz λe w'=>e=.returned (.bool true)/\Bl wz w':=by
 obtain⟨ad0,n0,cap0,rfl,hn,hr⟩:=hc
 have HEZ:=qh hE
 clear hE
 go_enter func9,ntmps9
 go_wp2_with fail
 refine (vBig _ n0 ad0 cap0 rfl hn _).mono ?_
 rintro e w' ⟨rfl,rfl⟩
 cases hbig:decide (65536<n0)
 rotate_left
 .have hn2:=of_decide_eq_true hbig;go_wp2;go_ret;exact⟨rfl,Below.refl _ _⟩
 have HCD:=qh (show c7j wz (.slice ad0 n0 cap0) from⟨ad0,n0,cap0,rfl,by have:=of_decide_eq_false hbig;omega,hr⟩)
 clear hbig hr
 go_wp2_with fail
 refine (c0a _ _ HCD.o HEZ.o).mono ?_
 rintro e w ⟨⟨l,st,sc⟩,⟨d,p,n⟩,u,us,tx,rfl,htx,hd,hf,hu,hus,hb⟩
 simp only at hd hf hu hus
 obtain⟨ad,cap,rfl,_,_⟩:=id hu
 obtain⟨sd,sap,rfl,_,_⟩:=id hus
 have HFIT:=qh hf;have HSM:=qh hd.small
 have hd2:d.length<=2^20:=hf.2.2.2.2.1
 have hp2:p.length<=2^20:=hf.2.2.2.2.2
 obtain⟨W1,hW1⟩:∃v,w.alloc (a0f (.slice ad l.length cap) (.slice sd st.length sap) sc d p n)=v:=⟨_,rfl⟩
 have hba:Bl w W1:=by rw [<-hW1];exact bZ.alloc lZ _
 have HX:Hq (SBox w.heap.size (.slice ad l.length cap) (.slice sd st.length sap) sc d p n W1):=⟨by rw [<-hW1];exact SBox.new _ _ _ _ _ _ _⟩
 have HU:=qh (hu.below hba);have HUS:=qh (hus.below hba)
 have HE:=qh ((HEZ.o.below hb HEZ.o.size).below hba (HEZ.o.below hb HEZ.o.size).size)
 have HB:=qh (hb.trans (hba.mono hb.size))
 clear hf hd hu hus hb hba HCD HEZ
 go_upto_region 4 with fail
 try rw [hW1]
 clear hW1
 obtain⟨c0,c1,c2,c3,c4,c5,_⟩:=HX.o
 go_wp2_with fail
 refine (a9m _ _ l st sc d p n tx _ HU.o HUS.o HFIT.o oZ HE.o).mono ?_
 rintro e w2 ⟨ws,rfl,how,hb⟩
 have hrl:=P.d0s (l,(st,sc)) (d,p,n) tx
 obtain⟨rs,ok,hrs⟩:∃a b,P.script (l,(st,sc)) (d,p,n) tx=(a,b):=⟨_,_,rfl⟩
 have HRS:=qh hrs
 rw [hrs]at how hrl⊢
 simp only at how hrl⊢
 clear hrs
 have HW:=qh (b4j how)
 obtain⟨wa,wcp,rfl,_⟩:=b4j how
 have HX2:=qh (HX.o.below hb);have HU2:=qh (HU.o.below hb);have HUS2:=qh (HUS.o.below hb);have HE2:=qh (HE.o.below hb HE.o.size);have HB2:=bt HB hb
 clear how hb HX HU HUS HE HB c0 c1 c2 c3 c4 c5
 obtain⟨c0,c1,c2,c3,c4,c5,_⟩:=HX2.o
 go_wp2_with fail
 refine (b7m _ _ l st sc d p n tx _ HU2.o HUS2.o HFIT.o oZ HE2.o).mono ?_
 rintro e w3 ⟨ws2,rfl,how,hb⟩
 rw [HRS.o]at how⊢
 simp only at how⊢
 have HV:=qh (b4j how)
 obtain⟨va,vcp,rfl,_⟩:=b4j how
 have HX3:=qh (HX2.o.below hb);have HU3:=qh (HU2.o.below hb);have HUS3:=qh (HUS2.o.below hb);have HE3:=qh (HE2.o.below hb HE2.o.size);have HB3:=bt HB2 hb;have HW3:=qh (HW.o.below hb)
 clear how hb HX2 HU2 HUS2 HE2 HB2 HW c0 c1 c2 c3 c4 c5
 have hne:(rs.length:Int)=(rs.length:Int):=rfl
 go_wp2
 go_loopw [9] (λi wr=>∃j:Nat,j<=rs.length/\i=.int .i64 j/\Bl w3 wr) (λi _=>rs.length-(intOf i).toNat)
 case atStart=>exact⟨0,Nat.zero_le _,rfl,Below.refl _ _⟩
 case round=>
  obtain⟨j,hj,rfl,hb⟩:=hrel
  by_cases hlt:j<rs.length
  .have hnn:rs≠[]:=λe=>by rw [e]at hlt;exact Nat.not_lt_zero _ hlt
   obtain⟨wa2,wc2,e1,hw⟩:=HW3.o;obtain⟨g1,rfl,hg1⟩:=hw.resolve_left hnn;injection e1 with e1 e2 e3;subst e1 e3;obtain⟨va2,vc2,e1,hv⟩:=HV.o;obtain⟨g2,rfl,hg2⟩:=hv.resolve_left hnn;injection e1 with e1 e2 e3;subst e1 e3;have c0:=(hb.cell (p:=⟨g1,j,none⟩) hg1.1.1).trans (hg1.2 j hlt);have c1:=(hb.cell (p:=⟨g2,j,none⟩) hg2.1.1).trans (hg2.2 j hlt);have z1:g1<wr.heap.size:=Nat.lt_of_lt_of_le hg1.1.1 hb.size;have z2:g2<wr.heap.size:=Nat.lt_of_lt_of_le hg2.1.1 hb.size;have i1:(j:Int)<(rs.length:Int):=by omega
   have HBQ:=qh (λq=>hb.trans ((below_drewN (Below.refl wr.heap.size wr) q).mono hb.size));generalize rs[j]=x at *;clear hg1 hg2 hw hv hb hnn
   go_wp2_with fail
   go_quiet (fail)
   go_wp2
   go_roundw
   case rel=>exact⟨j+1,by omega,by go_num,HBQ.o _⟩
   case measure=>exact zq
  .obtain rfl:j=rs.length:=by omega
   have HX4:=qh (HX3.o.below hb);have HU4:=qh (HU3.o.below hb);have HUS4:=qh (HUS3.o.below hb);have HE4:=qh (HE3.o.below hb HE3.o.size);have HB4:=bt HB3 hb;have HW4:=qh (HW3.o.below hb);have hii:¬(rs.length:Int)<(rs.length:Int):=by omega
   clear hb HX3 HU3 HUS3 HE3 HB3 HW3 HV
   go_wp2_with fail
   refine (c3p tx _ htx).mono ?_;rintro e w4 ⟨lv,rfl,hls,hb⟩;obtain⟨gl,glc,rfl,_,hsl⟩:=a3s hls (P.a2k 10 tx);have HL5:=qh hsl;have HX5:=qh (HX4.o.below hb);have HU5:=qh (HU4.o.below hb);have HUS5:=qh (HUS4.o.below hb);have HE5:=qh (HE4.o.below hb HE4.o.size);have HB5:=bt HB4 hb;have HW5:=qh (HW4.o.below hb);clear hls hb hsl HX4 HU4 HUS4 HE4 HB4 HW4;have HFL:=qh (λ(hok:P.script (l,(st,sc)) (d,p,n) tx=(rs,true))=>P.d0b hok rfl);have HPL:=qh (P.b0a 10 tx);generalize P.split 10 tx=ls at *
   cases ok
   .have hr0:=P.c1w HRS.o;subst hr0;go_wp2;go_ret;exact⟨rfl,HB5.o⟩
   .by_cases h2:ls.length<2
    .have i2:(ls.length:Int)<2:=by omega
     go_wp2;go_ret;exact⟨rfl,HB5.o⟩
    .have i2:¬(ls.length:Int)<2:=by omega
     have h0:0<ls.length:=by omega
     obtain⟨y,hy,hyl,q,hyq⟩:=HFL.o HRS.o h0;have hxl:=HPL.o.2 _ (List.getElem_mem h0);have k0:=HL5.o.2 0 h0;have HLZ:=qh HL5.o.1.1;generalize ls[0]=x at *;have HY:=qh hy;have HYQ:=qh hyq;have HYL:=qh hyl;clear hy hyq hyl HFL HPL HL5;have i3:(0:Int)<(ls.length:Int):=by omega
     have hdd:Bl w4 w4.drew:=bZ.drew;have HS:=qh (show c8d w.heap.size gl (.slice ad l.length cap) (.slice sd st.length sap) sc d p n x w4.drew from⟨HX5.o.below hdd,k0,HLZ.o⟩);have HU6:=qh (HU5.o.below hdd);have HUS6:=qh (HUS5.o.below hdd);have HE6:=qh (HE5.o.below hdd HE5.o.size);have HB6:=bt HB5 hdd;have HW6:=qh (HW5.o.below hdd);clear HX5 HU5 HUS5 HE5 HB5 HW5 k0 hdd;go_upto_region 16 with fail;refine wp_region_held_drew (S:=c8d w.heap.size gl (.slice ad l.length cap) (.slice sd st.length sap) sc d p n x) kZ HS.o (λhS0=>?_);generalize w4.drew=y0 at *;refine tk14 0 hS0 ?_;refine tk14 1 hS0 ?_;refine tk14 2 hS0 ?_;refine tk14 3 hS0 ?_;refine trd 4 λK hK=>?_;go_simp;refine (a9m _ _ l st sc d p n x _ HU6.o HUS6.o HFIT.o oZ HE6.o).mono ?_;rintro e y1 ⟨fs,rfl,how,hb⟩;rw [HY.o]at how⊢;simp only at how⊢;obtain⟨gf,gfc,rfl,_,hsf⟩:=a3s how sZ;refine hK.out _ _ ⟨hS0.1.below hb,(hb.cell (p:=⟨gl,0,none⟩) hS0.2.2).trans hS0.2.1,Nat.lt_of_lt_of_le hS0.2.2 hb.size⟩ (λhS1=>?_);clear hK K;have k1:=hsf.2 0 sZ;have HF7:=qh (show gf<y1.heap.size/\y1.cell? ⟨gf,0,none⟩=some (.string (S y)) from⟨hsf.1.1,k1⟩);have HX7:=qh hS1.1;have HU7:=qh (HU6.o.below hb);have HUS7:=qh (HUS6.o.below hb);have HE7:=qh (HE6.o.below hb HE6.o.size);have HB7:=bt HB6 hb;have HW7:=qh (HW6.o.below hb);clear hS0 HS how hsf k1 hb HU6 HUS6 HE6 HB6 HW6;refine zm0 ?_;refine tk14 5 hS1 ?_;refine tk14 6 hS1 ?_;refine tk14 7 hS1 ?_;refine tk14 8 hS1 ?_;refine tk14 9 hS1 ?_;refine wpAnyH_done kZ ?_ _;clear hS1;obtain⟨c0,c1,c2,c3,c4,c5,_⟩:=HX7.o;go_wp2_with fail;refine (b2h _ _ l st sc d p n _ HU7.o HUS7.o HSM.o hd2 hp2 HE7.o).mono ?_;rintro e w8 ⟨rfl,hb⟩;obtain⟨ft,fo,hft⟩:∃a b,P.b5c l st sc d p n=(a,b):=⟨_,_,rfl⟩;have HFT:=qh hft;rw [hft];simp only;have HX8:=qh (HX7.o.below hb);have HU8:=qh (HU7.o.below hb);have HUS8:=qh (HUS7.o.below hb);have HB8:=bt HB7 hb;have HW8:=qh (HW7.o.below hb);have HF8:=qh (show gf<w8.heap.size/\w8.cell? ⟨gf,0,none⟩=some (.string (S y)) from⟨Nat.lt_of_lt_of_le HF7.o.1 hb.size,(hb.cell (p:=⟨gf,0,none⟩) HF7.o.1).trans HF7.o.2⟩);clear hft hb HX7 HU7 HUS7 HE7 HB7 HW7 HF7 c0 c1 c2 c3 c4 c5;obtain⟨c0,c1,c2,c3,c4,c5,_⟩:=HX8.o;go_wp2_with fail;refine (b2d _ _ l st sc d p n _ HU8.o HUS8.o HSM.o hd2 hp2).mono ?_;rintro e w9 ⟨rfl,hb⟩;rw [HFT.o];simp only;have HB9:=bt HB8 hb;have HW9:=qh (HW8.o.below hb);obtain⟨hfz,k2⟩:gf<w9.heap.size/\w9.cell? ⟨gf,0,none⟩=some (.string (S y)):=⟨Nat.lt_of_lt_of_le HF8.o.1 hb.size,(hb.cell (p:=⟨gf,0,none⟩) HF8.o.1).trans HF8.o.2⟩;clear hb HX8 HU8 HUS8 HB8 HW8 HF8 c0 c1 c2 c3 c4 c5;obtain⟨wa2,wc2,e1,hw⟩:=HW9.o;obtain⟨g1,rfl,hg1⟩:=hw.resolve_left (by rw [HYQ.o];simp);injection e1 with e1 e2 e3;subst e1;have hlr:0<rs.length:=by rw [HYQ.o];simp
     have k3:=hg1.2 0 hlr;rw [show rs[0]=y by simp [HYQ.o]]at k3;have z1:=hg1.1.1;have i4:(0:Int)<(rs.length:Int):=by omega
     have HBQ:=qh (λq=>HB9.o.trans ((below_drewN (Below.refl w9.heap.size w9) q).mono HB9.o.size));clear hg1 hw HYQ HYL;go_wp2_with fail;go_quiet (fail);go_wp2;go_ret;exact⟨rfl,HBQ.o _⟩
open Go.ChangeShapes Go.WideShapes Go.ChangeAt Go.Deep
theorem b3t {P:Program} {W:World} {name:String} {k:IntKind} {zs:List Int} {g:Nat} {t e:TypeId} {n:Nat}
 (hg:P.globalNamed name=some g) (hty:(P.globals[g]?).map (·.type)=some t) (ht:P.underlying t=some (.array n e)) (he:P.underlying e=some (.int k)) (hce:P.cellsOf e=1) (hct:P.cellsOf t=n) :
 ∀(laid:List (String×DataW Unit)) (ps:List MemPlace),(name,Lib.tabData k zs)∈laid->DataW.LaidVars P W laid ps->Lib.TabIs P W name k zs
 |[],_,h,_=>by cases h
 |(m,d)::r,ps,h,hl=>by
  obtain⟨g',t',cs,fuel,p,q,hg',ht',hvar,hd,hrest,_⟩:=hl
  rcases List.mem_cons.1 h with h|h
  .injection h with h1 h2;subst h1 h2;obtain rfl:=Option.some.inj (hg.symm.trans hg');obtain rfl:=Option.some.inj (hty.symm.trans ht');unfold Lib.TabIs;rw [hvar,<-Lib.cells_of_tab ht he hce hct hd]
  .exact b3t hg hty ht he hce hct r _ h hrest
theorem e0u {W:World} (hsh:W.ShapedOpen Tryz.prog) (h:laidMetH Tryz.prog [("math/bits.deBruijn32tab",Rows.laid_math_bits_deBruijn32tab),("math/bits.deBruijn64tab",Rows.laid_math_bits_deBruijn64tab),("internal/strconv.uint64pow10",Rows.laid_internal_strconv_uint64pow10),("unicode/utf8.acceptRanges",Rows.laid_unicode_utf8_acceptRanges),("unicode/utf8.first",Rows.laid_unicode_utf8_first)] W):L.Env W:=by
 have hm:laidMet Tryz.prog [("math/bits.deBruijn32tab",Rows.laid_math_bits_deBruijn32tab),("math/bits.deBruijn64tab",Rows.laid_math_bits_deBruijn64tab),("internal/strconv.uint64pow10",Rows.laid_internal_strconv_uint64pow10),("unicode/utf8.acceptRanges",Rows.laid_unicode_utf8_acceptRanges),("unicode/utf8.first",Rows.laid_unicode_utf8_first)] W:=h;obtain⟨ps,hv,_⟩:=hm
 have htab:Lib.TabIs Tryz.prog W "internal/strconv.uint64pow10" .u64 Lib.pow10Tab:=
  b3t (t:=302) (e:=89) (n:=20) L.c4w kZ underlying302 underlying89 kZ kZ _ _ (List.mem_cons_of_mem _ (List.mem_cons_of_mem _ (List.mem_cons_self ..))) hv
 obtain⟨_,m,hc⟩:=env_of hsh trivial;have h1:0<W.heap.size:=World.block_lt_of_cell? W _ hc;have h2:5<W.heap.size:=World.block_lt_of_cell? W _ (htab.cell L.c4w 0 dZ);exact⟨by unfold L.EB;omega,⟨m,hc⟩,htab⟩
def tab32Q:List Int:=[0,1,28,2,29,14,24,3,30,22,20,15,25,17,4,8,31,27,13,23,21,19,16,7,26,12,18,6,11,5,10,9]
def tab64Q:List Int:=[0,1,56,2,57,49,28,3,61,58,42,50,38,29,17,4,62,47,59,36,45,43,51,22,53,39,33,30,24,18,12,5,63,55,48,27,60,41,37,16,46,35,44,21,52,32,23,11,54,26,40,15,34,20,31,10,25,14,19,9,13,8,7,6]
noncomputable def laidWorldQ (os:Os):World:=
 { laidWorld os with heap:=c2z 5 .u64 Lib.pow10Tab (c2z 7 .u8 tab64Q (c2z 6 .u8 tab32Q (laidWorld os).heap)) }
end Go.Proofs.YtggfdnopminemaaGreatDoor
