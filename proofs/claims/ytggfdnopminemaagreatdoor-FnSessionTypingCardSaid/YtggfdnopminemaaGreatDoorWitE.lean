/- The law FnSessionTyping: strokes pressed by commands one after another: each reply is the edit that leads to the new screen. -/
import Derived.Test.YtggfdnopminemaaGreatDoorZt
import Derived.Test.YtggfdnopminemaaGreatDoorFDict1
set_option linter.all false
namespace Go.Proofs.YtggfdnopminemaaGreatDoor
open Go Go.RowKit
theorem P.ok_fit {s:P.Ses} {g:P.LogT} (h:P.a8b s g=true):P.Fit s g:=by
 obtain⟨ht,hv⟩:=P.a3f h;have hd:=P.c8a ht;have hl:=P.a5g hd;obtain⟨_,_,h3⟩:=P.b6e hv;refine⟨?_,?_,?_,?_,?_,?_⟩
 ·have:=hl.1;omega
 ·exact fun e he=>by have:=(P.a8c (hl.2.1 e he)).2.1;omega
 ·exact fun e he=>Nat.le_trans (P.b1m hd e he) dZ
 ·have:=P.a4f (P.d3b (P.a2u ht).1).2.1;omega
 ·omega
 ·omega
theorem P.d2k {l:List Int} (h:P.a1t l=true) {j:Nat} (hj:j<l.length):P.a0m l[j]=true:=by
 unfold P.a1t at h;simp only [Bool.and_eq_true,List.all_eq_true]at h;exact h.2 _ (List.getElem_mem hj)
theorem a2g {B:Nat} {v v':World} {u:Value} {l:List Int} (h:OwnK B v u l) (hb:Below v.heap.size v v'):OwnK B v' u l:=a0g h (Below.chg hb fun _=>False) fun _ _ h=>h
def TyJ (w1:World) (lo b:Nat) (l:P.Dic) (ns:List Int) (ns2:List Int) (sc:Str) (g:P.LogT) (u us tv:Value) (wx:World):Prop:=
 (∃xu xus xsc xd xp xn,SOut w1.heap.size xu xus xsc xd xp xn wx)∧SOut b u us sc g.1 g.2.1 g.2.2 wx∧(∃B,a2s lo B wx u us l ns)∧OwnK (w1.heap.size+1) wx tv ns2∧Below w1.heap.size w1 wx∧lo≤wx.heap.size∧w1.heap.size<lo
theorem TyJ.below {w1:World} {lo b:Nat} {l:P.Dic} {ns ns2:List Int} {sc:Str} {g:P.LogT} {u us tv:Value} {wx v:World} (h:TyJ w1 lo b l ns ns2 sc g u us tv wx) (hb:Below wx.heap.size wx v):TyJ w1 lo b l ns ns2 sc g u us tv v:=by
 obtain⟨⟨xu,xus,xsc,xd,xp,xn,h1⟩,h2,⟨B,h3⟩,h4,h5,h6,h7⟩:=h;exact⟨⟨_,_,_,_,_,_,h1.below hb⟩,h2.below hb,⟨B,h3.below hb⟩,a2g h4 hb,h5.trans (hb.mono h5.size),Nat.le_trans h6 hb.size,h7⟩
theorem TyJ.grow {w1:World} {lo b n:Nat} {l:P.Dic} {ns ns2 ns3:List Int} {sc:Str} {g:P.LogT} {u us u4:Value} {ta:Option Addr} {tc:Nat} {wx z:World} {ob:Obj} (h:TyJ w1 lo b l ns ns2 sc g u us (.slice ta n tc) wx)
 (hT:∀k,(Value.slice ta n tc).ownBlock=some k→w1.heap.size+1≤k∧k<lo) (hb:lo≤b) (ho:OwnK (w1.heap.size+1) z u4 ns3) (hg:(wx.alloc ob).grownBy z (Value.slice ta n tc).ownBlock):TyJ w1 lo b l ns ns3 sc g u us u4 z:=by
 have ha:=(Below.refl wx.heap.size wx).alloc lZ ob
 obtain⟨⟨xu,xus,xsc,xd,xp,xn,h1⟩,h2,⟨B,h3⟩,h4,h5,h6,h7⟩:=h.below ha
 have hc:=Chg.grown hg
 refine⟨⟨_,_,_,_,_,_,h1.a0c hc fun e=>by have:=hT _ e;omega⟩,h2.a0c hc fun e=>by have:=hT _ e;omega,⟨B,h3.a8h hc fun k e=>(hT k e).2⟩,ho,Chg.a0x h5 hc h5.size (fun k e=>by have:=hT k e;omega),Nat.le_trans h6 hc.size,h7⟩
theorem c5w {B n:Nat} {v:World} {u:Value} {xs:List Value} (h:v.ownsRow B 3 1 u n xs):∃a c,u=.slice a n c:=by
 exact zq83
theorem d0r {B:Nat} {v:World} {a:Option Addr} {c:Nat} {st:List Int} {x:Int} (h:OwnK B v (.slice a (st.length+1) c) (st++[x])):OwnK B v (.slice a st.length c) st∧OwnK B v (.slice a (st.length-1) c) (st.take (st.length-1)):=by
 have h':OwnK B v (.slice a (st++[x]).length c) (st++[x]):=by rw [List.length_append];exact h
 have h1:=b2s h' sZ (m:=st.length) sZ;rw [List.take_left']at h1
 ·refine⟨h1,?_⟩
  by_cases hs:st=[]
  ·subst hs;exact h1
  ·exact b2s h1 hs oZ
 ·rfl
def TyI (w1:World) (l:P.Dic) (st:List Int) (sc d p:Str) (n:Int) (u us tv:Value) (wr:World):Prop:=
 SOut w1.heap.size u us sc d p n wr∧EntR wr u l∧IntR wr us st∧OwnK (w1.heap.size+1) wr tv st∧Below w1.heap.size w1 wr∧w1.heap.size<wr.heap.size
theorem TyI.below {w1:World} {l:P.Dic} {st:List Int} {sc d p:Str} {n:Int} {u us tv:Value} {wr v:World} (h:TyI w1 l st sc d p n u us tv wr) (hb:Below wr.heap.size wr v):TyI w1 l st sc d p n u us tv v:=
 ⟨h.1.below hb,h.2.1.below hb,h.2.2.1.below hb,a2g h.2.2.2.1 hb,h.2.2.2.2.1.trans (hb.mono h.2.2.2.2.1.size),Nat.lt_of_lt_of_le h.2.2.2.2.2 hb.size⟩
set_option maxHeartbeats 8000000
set_option maxRecDepth 100000
theorem c4m (v:Value) (wz:World) (hc:c9t wz v) (hE:L.Env wz) (hS:ErrS wz) :
 Calls Tryz.prog 4 #[v] wz fun e w'=>e=.returned (.bool true)∧Below wz.heap.size wz w':=by
 obtain⟨ad0,n0,cap0,rfl,hn,hr⟩:=hc
 have HEZ:=qh hE;have HSZ:=qh hS
 clear hE hS
 go_enter Tryz.func4,Tryz.ntmps4
 go_wp2_with fail
 refine (vBig _ n0 ad0 cap0 rfl hn _).mono ?_
 rintro e w' ⟨rfl,rfl⟩
 cases hbig:decide (65536<n0)
 rotate_left
 ·have hn2:=of_decide_eq_true hbig;go_wp2;go_ret;exact⟨rfl,Below.refl _ _⟩
 have HCD:=qh (show b1j wz (.slice ad0 n0 cap0) from⟨ad0,n0,cap0,rfl,by have:=of_decide_eq_false hbig;omega,hr⟩)
 clear hbig hr
 go_wp2_with fail
 refine (vBook _ _ HCD.o).mono ?_
 rintro e w ⟨l,u,L,us,rfl,hu,hus,hdl,hsl,hb⟩
 obtain⟨ad,cap,rfl,_,_⟩:=id hu
 obtain⟨sd,sap,rfl,_,_⟩:=id hus
 have HDL:=qh hdl;have HSL:=qh hsl
 have HSM:=qh (show Small l from by
  have hl:=P.a5g hdl;exact⟨by have:=hl.1;omega,fun e he=>by have:=(P.a8c (hl.2.1 e he)).2.1;omega,fun e he=>Nat.le_trans (P.b1m hdl e he) dZ⟩)
 have HE:=qh (HEZ.o.below hb HEZ.o.size);have HS:=qh (HSZ.o.below hb);have HBD:=qh hb
 have hba:=(Below.refl w.heap.size w).alloc lZ (.cells #[.slice ad l.length cap] 26)
 have HU:=qh (hu.below hba);have HL:=qh (hus.below hba)
 have A_0:=qh (Box1.new (.slice ad l.length cap) 26 w)
 have HB0:=qh hba
 have hLn:L.length≤2^20:=by have:=P.a4f hsl;omega
 clear hu hus hdl hsl hb hba HCD HEZ HSZ
 go_upto_region 4 with fail
 generalize w.alloc (.cells #[.slice ad l.length cap] 26)=v0 at *
 obtain⟨c_A,_⟩:=A_0.o
 go_wp2_with fail
 refine (b2m _ l _ HU.o HSM.o (HE.o.dic.below HB0.o HE.o.dic.size)).mono ?_
 rintro e w1 ⟨u0,rfl,hents,hb⟩
 rw [HDL.o]at hents⊢
 have hents1:Ents w1 (Bet v0.heap.size w1.heap.size) u0 l:=hents
 obtain⟨ua,uc,rfl,_,_⟩:=id hents1.read
 have hb1:=(Below.refl w1.heap.size w1).alloc lZ (a0r (.slice ua l.length uc) (.slice none 0 0) [] [] [] 0)
 have HUR:=qh (hents1.read.below hb1)
 have HUD:=qh (HU.o.below hb);have HL1:=qh (HL.o.below hb);have A_1:=qh (A_0.o.below hb)
 have HAZ:=qh (show w.heap.size<w1.heap.size from Nat.lt_of_lt_of_le A_0.o.2 hb.size)
 have HB1:=qh ((HB0.o.trans (hb.mono HB0.o.size)))
 have HX1:=qh (SOut.new (.slice ua l.length uc) (.slice none 0 0) [] [] [] 0 w1)
 have HBB:=qh hb1
 have HZ1:=qh (show w1.heap.size<(w1.alloc (a0r (.slice ua l.length uc) (.slice none 0 0) [] [] [] 0)).heap.size from by simp)
 clear hents hents1 hb hb1 c_A HU HL A_0 HB0
 unfold a7w
 go_upto_region 5 with fail
 generalize w1.alloc (a0r (.slice ua l.length uc) (.slice none 0 0) [] [] [] 0)=v1 at *
 go_upto_if 36 with fail
 go_cut [4] (fun s wx=>∃(L':List Int),s=.slice sd L'.length sap∧IntR w1 (.slice sd L'.length sap) L'∧P.a1t L'=true∧L'.length≤12∧wx=v1)
 case first=>
  by_cases h12:12<L.length
  ·have i1:(12:Int)<(L.length:Int):=by omega
   have hcap:=IntR.cap HL1.o;have i2:¬(sap:Int)<12:=by omega
   go_wp2;go_meet;refine⟨L.take 12,?_,?_,?_,?_,rfl⟩
   ·rw [List.length_take,Nat.min_eq_left oZ]
   ·have h:=IntR.front HL1.o (k:=12) oZ
    rwa [List.length_take,Nat.min_eq_left oZ]
   ·have h:=HSL.o;unfold P.a1t at h⊢;simp only [Bool.and_eq_true,decide_eq_true_eq,List.all_eq_true]at h⊢;exact⟨by rw [List.length_take];omega,fun x hx=>h.2 x (List.mem_of_mem_take hx)⟩
   ·rw [List.length_take];omega
  ·have i1:¬(12:Int)<(L.length:Int):=by omega
   go_wp2;go_meet;exact⟨L,rfl,HL1.o,HSL.o,by omega,rfl⟩
 case rest=>
  obtain⟨L',rfl,hL',hsl',hLn',hwx⟩:=hcut;have hwx':=hwx.symm;clear hwx;subst hwx';have HLL:=qh hL';have HSL':=qh hsl';have i12:¬(L'.length:Int)>2^40:=by omega
  obtain⟨i0,hi,hz0,hz1,hz2⟩:=info_parts a1z;have hba:=(Below.refl v1.heap.size v1).alloc lZ (.cells #[] 3)
  have HI0:=qh (show TyI w1 l [] [] [] [] 0 (.slice ua l.length uc) (.slice none 0 0) (.slice (some ⟨v1.heap.size,0,none⟩) 0 0) (v1.alloc (.cells #[] 3)) from
   ⟨HX1.o.below hba,HUR.o.below hba,a1i (a9d 0 _) sZ,a1n (b9o v1) HZ1.o,HBB.o.trans (hba.mono HBB.o.size),Nat.lt_of_lt_of_le HZ1.o hba.size⟩)
  clear hba hL' hsl' HSL HL1;go_wp2
  go_loopw [7,8,9] (fun sv tv i wr=>∃(j:Nat) (st:List Int) (sc d p:Str) (n:Int) (u us:Value),j≤L'.length∧i=.int .i64 j∧sv=.string (S sc)∧P.a8b (l,(st,sc)) (d,p,n)=true∧n≤j∧TyI w1 l st sc d p n u us tv wr) (fun _ _ i _=>L'.length-(intOf i).toNat)
  case atStart=>exact⟨0,[],[],[],[],0,_,_,Nat.zero_le _,rfl,rfl,P.d5f HDL.o,Int.le_refl _,HI0.o⟩
  case round=>
   obtain⟨j,st,sc,d,p,n,u,us,hj,rfl,rfl,hok,hnj,hI⟩:=hrel;have HOK:=qh hok;have HI:=qh hI;have HNJ:=qh hnj;have htb:=World.ownsRow.lt hI.2.2.2.1;obtain⟨ta,tc,rfl⟩:=a0j hI.2.2.2.1;obtain⟨xa,xc,rfl,_,_⟩:=id hI.2.1;obtain⟨ya,yc,rfl,_,_⟩:=id hI.2.2.1;have HTB:=qh htb;have hst60:st.length≤60:=P.a4f (P.d3b (P.a2u (P.a3f hok).1).1).2.1;clear hok hnj htb HI0
   by_cases hlt:j<L'.length
   ·obtain⟨g,o,hga,hgs,hcell⟩:=(HLL.o.below (hI.2.2.2.2.1.mono lZ)).at j hlt;subst hga;have hk:=P.d2k HSL'.o hlt
    obtain⟨m,hm⟩:∃m:Nat,L'[j]=(m:Int):=by
     unfold P.a0m at hk;rw [decide_eq_true_eq]at hk;exact Int.eq_ofNat_of_zero_le oZ
    rw [hm]at hcell hk;have HKS:=qh hk;have HM:=qh hm;have i1:(j:Int)<(L'.length:Int):=by omega
    have hfl:=P.a9q (m:Int);clear hk hm hI
    go_wp2_with fail
    refine (a1j m _ HKS.o).mono ?_;rintro e w3 ⟨rfl,hb⟩;have HI3:=qh (HI.o.below hb);have hw3:=hb.size;have HW3:=qh hw3;clear hb hcell hw3;obtain⟨⟨o0,o1,o2,o3,o4,o5,o6⟩,_⟩:=HI3.o.1
    go_wp2_with fail
    refine (b8q (.slice xa l.length xc) (.slice ya st.length yc) l st sc d p n (P.a2h (m:Int)) _ HI3.o.2.1 HI3.o.2.2.1 (P.ok_fit HOK.o) (by unfold P.a2h;simp only [List.length_append,List.length_cons,List.length_nil];omega) (HE.o.below (HB1.o.trans (HI3.o.2.2.2.2.1.mono HB1.o.size)) HE.o.size)).mono ?_;have HST:=qh (P.d5a (l:=l) (st:=st) (sc:=sc) (g:=(d,p,n)) HOK.o HKS.o (by have:=HNJ.o;show n<60;omega));obtain⟨a,ha⟩:∃a,P.exec (l,(st,sc)) (d,p,n) (P.a2h (m:Int))=a:=⟨_,rfl⟩;rw [ha]at HST⊢;obtain⟨⟨⟨l1,st1,sc1⟩,d1,p1,n1⟩,r⟩:=a;clear ha o0 o1 o2 o3 o4 o5 o6;rintro e w4 ⟨nu,nus,B,rfl,hrows,hb⟩;simp only at hrows⊢;obtain⟨na,nc,rfl,_,_⟩:=id hrows.dic;obtain⟨sa,ssc,rfl,_,_⟩:=id hrows.str;have hb5:=(Below.refl w4.heap.size w4).alloc lZ (a0r (.slice na l1.length nc) (.slice sa st1.length ssc) sc1 d1 p1 n1);have HI5:=qh ((HI3.o.below hb).below hb5);have HN5:=qh (SOut.new (.slice na l1.length nc) (.slice sa st1.length ssc) sc1 d1 p1 n1 w4);have HR5:=qh (hrows.below hb5);have HZ4:=qh hb.size;have HZ5:=qh hb5.size;clear hrows hb hb5 HI3;unfold a7w
    go_upto_region 15 with fail
    generalize w4.alloc (a0r (.slice na l1.length nc) (.slice sa st1.length ssc) sc1 d1 p1 n1)=v5 at *
    rcases HST.o with (h|h)|⟨hn1,hn2,sc',g',he,hok',hn',hrep⟩
    ·have h':r=[98,97,100]:=h;exact zq51
    ·have h':r=[63]:=h;exact zq51
    obtain⟨g1,g2,g3⟩:=g';simp only [Prod.mk.injEq]at he;obtain⟨⟨h1,h2,h3⟩,h4,h5,h6⟩:=he;have k1:=h1.symm;have k3:=h3.symm;have k4:=h4.symm;have k5:=h5.symm;have k6:=h6.symm;clear h1 h3 h4 h5 h6;subst k1 k3 k4 k5 k6 h2;have b1:(r==[98,97,100])=false:=by rw [beq_eq_false_iff_ne];exact hn1
    have b2:(r==[63])=false:=by rw [beq_eq_false_iff_ne];exact hn2
    have HOK':=qh hok';have HN':=qh hn';clear hok' hn' hn1 hn2 HST;have hlo:w1.heap.size<w3.heap.size:=Nat.lt_of_lt_of_le HI.o.2.2.2.2.2 HW3.o
    have HJ5:=qh (show TyJ w1 w3.heap.size w4.heap.size l (P.next st (m:Int)) st sc' (g1,g2,g3) (.slice na l.length nc) (.slice sa (P.next st (m:Int)).length ssc) (.slice ta st.length tc) v5 from
     ⟨⟨_,_,_,_,_,_,HI5.o.1⟩,HN5.o,⟨B,HR5.o⟩,HI5.o.2.2.2.1,HI5.o.2.2.2.2.1,Nat.le_trans HZ4.o HZ5.o,hlo⟩)
    have HLE:=qh (HE.o.below (HB1.o.trans (HI5.o.2.2.2.2.1.mono HB1.o.size)) HE.o.size);have HLS:=qh (HS.o.below (HB1.o.trans (HI5.o.2.2.2.2.1.mono HB1.o.size)))
    obtain⟨e1,et,pb,HPE,HLB⟩:∃(e1:Int) (et:Str) (pb:Bool),Hq (Calls Tryz.prog 24 #[.string (S r)] v5 (c0m (e1,et) pb v5)∧et.length≤2^30)∧Hq ((r==[108,111,110,103])=false→pb=true∧P.b2v sc (e1,et)=(sc',true)):=by
     rcases hrep with hlong|⟨hnl,e0,hre,hed,hap⟩
     ·refine⟨0,[],false,qh ⟨?_,by decide⟩,qh fun h=>?_⟩
      ·have h':r=P.a6e:=hlong;rw [h'];exact b4a v5 HLE.o HLS.o
      ·exact absurd (show r=[108,111,110,103] from hlong) (by simpa using h)
     ·obtain⟨e1,et⟩:=e0;have hre':r=P.fmtE (e1,et):=hre;refine⟨e1,et,true,qh ⟨?_,?_⟩,qh fun _=>⟨rfl,hap⟩⟩
      ·rw [hre'];exact b5t e1 et v5 hed HLE.o
      ·have:=P.a2m (P.a6u hed).2.2;simp only at this;omega
    clear hrep HLS HI5 HN5 HR5
    go_wp2_with fail
    refine HPE.o.1.mono ?_;rintro e w6 ⟨rfl,hb⟩;have hb7:=(Below.refl w6.heap.size w6).alloc lZ (.cells #[.int .i64 e1,.string (S et)] 55);have HJ7:=qh ((HJ5.o.below hb).below hb7);have HE7:=qh (a0w.new (.int .i64 e1) et 55 w6)
    have hs30:sc.length≤2^30:=by
     have h:=P.a2m (P.a2c (P.a3f HOK.o).1);simp only at h;omega
    have HSL:=qh hs30;clear hb hb7 HJ5 hs30;unfold a2j
    go_upto_region 19 with fail
    generalize w6.alloc (.cells #[.int .i64 e1,.string (S et)] 55)=v7 at *;obtain⟨q0,q1,_⟩:=HE7.o
    go_wp2_with fail
    refine (c5k sc e1 et _ HSL.o HPE.o.2).mono ?_;rintro e w8 ⟨rfl,hb⟩;have HJ8:=qh (HJ7.o.below hb);obtain⟨⟨ax,ab⟩,hax⟩:∃a,P.b2v sc (e1,et)=a:=⟨_,rfl⟩;rw [hax]at HLB⊢;clear hax hb HJ7 HE7 q0 q1 HPE;obtain⟨lb,hlb⟩:∃lb,(r==[108,111,110,103])=lb:=⟨_,rfl⟩
    have HLL2:=qh (show lb=false→pb=true∧ab=true∧ax=sc' from fun h=>by
     obtain⟨h1,h2⟩:=HLB.o (by rw [hlb,h]);injection h2 with h3 h4;exact⟨h1,h4,h3⟩)
    have HRL:=qh hlb;clear hlb HLB
    go_upto_region 20 with fail
    go_cut [89] (fun c wx=>c=.bool false∧wx=w8)
    case first=>
     exact zq60
    case rest=>
     obtain⟨rfl,hwx⟩:=hcut;have hwx':=hwx.symm;clear hwx;subst hwx';obtain⟨_,hown0,hbk,hlow,_⟩:(∃xu xus xsc xd xp xn,SOut w1.heap.size xu xus xsc xd xp xn w8)∧OwnK (w1.heap.size+1) w8 (.slice ta st.length tc) st∧Below w1.heap.size w1 w8∧w3.heap.size≤w8.heap.size∧True:=⟨HJ8.o.1,HJ8.o.2.2.2.1,HJ8.o.2.2.2.2.1,HJ8.o.2.2.2.2.2.1,trivial⟩;obtain⟨gx,ox,hga,hgs2,hcell⟩:=(HLL.o.below (hbk.mono lZ)).at j hlt;injection hga with hga;injection hga with hg1 hg2;subst hg1 hg2;rw [HM.o]at hcell;have HOA:=qh (hown0.alloc (.cells #[.int .i64 (m:Int)] 3));have HSZ8:=qh (show w1.heap.size+1≤w8.heap.size from by have:=HJ8.o.2.2.2.2.2.2;omega);have HST60:=qh hst60;clear hown0;have HCELL:=qh hcell
     go_wp2_with (at_builtin;refine wpList_append_own _ rfl _ _ 33 rfl (w1.heap.size+1) 3 i0 (.int .i64 0) 1 8 Tryz.underlying33 hi hz0 hz1 hz2 rfl dZ (.slice ta st.length tc) st.length (ints st) rfl HOA.o ⟨w8.heap.size,0,none⟩ 1 1 [.int .i64 (m:Int)] rfl rfl ?_ ?_ ?_ ?_ ?_ ?_)
     all_goals first|exact⟨rfl,rfl⟩|(intro z hz;simp only [List.mem_cons,List.not_mem_nil,or_false]at hz;subst hz;rfl)|(unfold maxLen;omega)|omega|(have h1:=HSZ8.o;simp;omega)|(intro i z hz;rcases i with _|i;(injection hz with hz;subst hz;rw [add0];go_simp);cases hz)|rfl|skip
     intro u4 w9 hown hgr _
     have hown9:OwnK (w1.heap.size+1) w9 u4 (st++[(m:Int)]):=by
      unfold OwnK;rw [List.length_append]
      simpa [ints] using hown
     have HJ9:=qh (HJ8.o.grow (fun k hk=>by have h:=HTB.o k hk;have:=HW3.o;exact⟨h.1,by omega⟩) HZ4.o hown9 hgr);obtain⟨a4,c4,rfl⟩:=c5w hown;have HO9:=qh (d0r (a:=a4) (c:=c4) (st:=st) (x:=(m:Int)) hown9)
     have hc4:st.length+1≤c4:=by
      have h:=IntR.cap (a1i hown9 (by simp;omega))
      simpa using h
     have HOWN9:=qh hown9;clear hown hgr hown9 hcell HOA;obtain⟨gy,oy,hgb,hgs3,hcell⟩:=(HLL.o.below (HJ9.o.2.2.2.2.1.mono lZ)).at j hlt;injection hgb with hgb;injection hgb with hg1 hg2;subst hg1 hg2;rw [HM.o]at hcell
     go_upto_if 101 with fail
     go_cut [8] (fun tv wx=>∃(a:Option Addr) (c:Nat),tv=.slice a (P.next st (m:Int)).length c∧OwnK (w1.heap.size+1) wx (.slice a (P.next st (m:Int)).length c) (P.next st (m:Int))∧(∀k,(Value.slice a (P.next st (m:Int)).length c).ownBlock=some k→k<wx.heap.size)∧wx=w9)
     case first=>
      by_cases hk:(m:Int)=1024
      ·have hn:P.next st (m:Int)=st.take (st.length-1):=by unfold P.next;rw [if_pos hk]
       have hnl:(st.take (st.length-1)).length=st.length-1:=by rw [List.length_take];omega
       have HNN:=qh hn;have HNL:=qh hnl;have HD:=qh (World.ownsRow.lt HO9.o.2);have hkb:((m:Int)==1024)=true:=by simp [hk]
       clear hn hnl hk
       rcases hq:st.length with _|q
       ·exact zq57
       ·exact zq57
      ·have hn:P.next st (m:Int)=st++[(m:Int)]:=by unfold P.next;rw [if_neg hk]
       have hnl:(st++[(m:Int)]).length=st.length+1:=by rw [List.length_append];rfl
       have HNN:=qh hn;have HNL:=qh hnl;have hkb:((m:Int)==1024)=false:=by simp [hk]
       clear hn hnl;go_wp2;go_meet;rw [HNN.o,HNL.o];exact⟨a4,c4,rfl,HOWN9.o,fun k h=>(World.ownsRow.lt HOWN9.o k h).2,rfl⟩
     case rest=>
      obtain⟨a5,c5,rfl,hown5,hlt5,hwx⟩:=hcut;have hwx':=hwx.symm;clear hwx;subst hwx';have HO5:=qh hown5;have HLT5:=qh hlt5;obtain⟨⟨xu,xus,xsc,xd,xp,xn,hold⟩,hnew,⟨B9,hrows9⟩,_,hbk9,hlo9,hlo1⟩:=HJ9.o;obtain⟨V,hV⟩:∃v,wr6 w9 w1.heap.size (.slice na l.length nc) (.slice sa (P.next st (m:Int)).length ssc) sc' g1 g2 g3=v:=⟨_,rfl⟩;have hset:Chg (fun b=>b=w1.heap.size) w9 V:=by rw [←hV];exact b2l _ _ _ _ _ _ _ _
      have hrV:=hrows9.a8h hset (fun b h=>by have h9:b=w1.heap.size:=h;omega)
      have HIV:=qh (show TyI w1 l (P.next st (m:Int)) sc' g1 g2 g3 (.slice na l.length nc) (.slice sa (P.next st (m:Int)).length ssc) (.slice a5 (P.next st (m:Int)).length c5) V from
       ⟨by rw [←hV];exact b1t hold _ _ _ _ _ _,hrV.dic,hrV.str,a0g hown5 hset (fun k hk e=>by have h9:k=w1.heap.size:=e;have:=(World.ownsRow.lt hown5 k hk).1;omega),Chg.a0x hbk9 hset hbk9.size (fun b h=>by have h9:b=w1.heap.size:=h;omega),Nat.lt_of_lt_of_le (by have:=HJ9.o.2.2.2.2.2;omega) hset.size⟩)
      obtain⟨⟨x0,x1,x2,x3,x4,x5,x6⟩,f0,f1,f2,f3,f4,f5⟩:=hold;obtain⟨⟨n0',n1',n2',n3',n4',n5',n6'⟩,_⟩:=hnew;unfold wr6 at hV;clear hown5 hlt5 hset hrV hrows9 hcell
      go_upto_region 28 with fail
      go_cut [124] (fun c wx=>c=.bool false∧wx=w9)
      case first=>
       exact zq60
      case rest=>
       obtain⟨rfl,hwx⟩:=hcut;have hwx':=hwx.symm;clear hwx;subst hwx'
       go_upto_region 12 with fail
       try rw [hV]
       clear hV x0 x1 x2 x3 x4 x5 x6 f0 f1 f2 f3 f4 f5 n0' n1' n2' n3' n4' n5' n6';go_wp2
       go_roundw
       case rel=>exact⟨j+1,_,sc',g1,g2,g3,_,_,by omega,by go_num,rfl,HOK'.o,by have:=HNJ.o;have h2:=HN'.o;omega,HIV.o⟩
       case measure=>simp [intOf];omega
   ·have hjl:j=L'.length:=by omega
    have i1:¬(j:Int)<(L'.length:Int):=by omega
    have HCA:=qh (A_1.o.below (hI.2.2.2.2.1.mono lZ));obtain⟨c_A,_⟩:=HCA.o
    have hsc:P.scr l st=(sc,true):=by
     have h:=P.a2u (P.a3f HOK.o).1;exact Prod.ext h.2.1 h.1
    have HSC:=qh hsc;clear hsc hI
    go_wp2_with fail
    refine (a3c _ _ l st _ (HUD.o.below HI.o.2.2.2.2.1) (a1i HI.o.2.2.2.1 oZ) HSM.o ((HE.o.below (HB1.o.trans (HI.o.2.2.2.2.1.mono HB1.o.size)) HE.o.size).dic)).mono ?_;rintro e w3 ⟨rfl,hb⟩;rw [HSC.o];have HI3:=qh (HI.o.below hb);clear hb HI c_A HCA;obtain⟨⟨o0,o1,o2,o3,o4,o5,o6⟩,_⟩:=HI3.o.1
    go_wp2_with fail
    refine (vInts _ _ st st _ (a1i HI3.o.2.2.2.1 oZ) HI3.o.2.2.1).mono ?_;rintro e w4 ⟨rfl,hb⟩;rw [decide_eq_true rfl];have HB4:=qh (HBD.o.trans ((HB1.o.trans ((HI3.o.2.2.2.2.1.trans (hb.mono HI3.o.2.2.2.2.1.size)).mono HB1.o.size)).mono HBD.o.size));clear hb HI3 o0 o1 o2 o3 o4 o5 o6;go_wp2;go_ret;exact⟨rfl,HB4.o⟩
open Go.ChangeShapes Go.WideShapes Go.ChangeAt Go.Deep
theorem b0k {P:Program} {W:World} {name:String} {k:IntKind} {zs:List Int} {g:Nat} {t e:TypeId} {n:Nat}
 (hg:P.globalNamed name=some g) (hty:(P.globals[g]?).map (·.type)=some t) (ht:P.underlying t=some (.array n e)) (he:P.underlying e=some (.int k)) (hce:P.cellsOf e=1) (hct:P.cellsOf t=n) :
 ∀(laid:List (String×DataW Unit)) (ps:List MemPlace),(name,Lib.tabData k zs)∈laid→DataW.LaidVars P W laid ps→Lib.TabIs P W name k zs
 |[],_,h,_=>by cases h
 |(m,d)::r,ps,h,hl=>by
  obtain⟨g',t',cs,fuel,p,q,hg',ht',hvar,hd,hrest,_⟩:=hl
  rcases List.mem_cons.1 h with h|h
  ·injection h with h1 h2;subst h1 h2;obtain rfl:=Option.some.inj (hg.symm.trans hg');obtain rfl:=Option.some.inj (hty.symm.trans ht');unfold Lib.TabIs;rw [hvar,←Lib.cells_of_tab ht he hce hct hd]
  ·exact b0k hg hty ht he hce hct r _ h hrest
def tab32Q:List Int:=[0,1,28,2,29,14,24,3,30,22,20,15,25,17,4,8,31,27,13,23,21,19,16,7,26,12,18,6,11,5,10,9]
def tab64Q:List Int:=[0,1,56,2,57,49,28,3,61,58,42,50,38,29,17,4,62,47,59,36,45,43,51,22,53,39,33,30,24,18,12,5,63,55,48,27,60,41,37,16,46,35,44,21,52,32,23,11,54,26,40,15,34,20,31,10,25,14,19,9,13,8,7,6]
noncomputable def laidWorldQ (os:Os):World:=
 { laidWorld os with heap:=b8y 5 .u64 Lib.pow10Tab (b8y 7 .u8 tab64Q (b8y 6 .u8 tab32Q (laidWorld os).heap)) }
section
variable {H:Type} {enc:TypeId×Value→H} {W:World} {held:Bool}
end
abbrev d4s:List (String×DataW Unit):=[("math/bits.deBruijn32tab",Rows.laid_math_bits_deBruijn32tab),("math/bits.deBruijn64tab",Rows.laid_math_bits_deBruijn64tab),("internal/strconv.uint64pow10",Rows.laid_internal_strconv_uint64pow10),("unicode/utf8.acceptRanges",Rows.laid_unicode_utf8_acceptRanges),("strconv.ErrRange",Rows.laid_strconv_ErrRange),("strconv.ErrSyntax",Rows.laid_strconv_ErrSyntax),("unicode/utf8.first",Rows.laid_unicode_utf8_first)]
theorem d5i {W:World} (h:laidMetH Tryz.prog d4s W):ErrS W:=by
 have hm:laidMet Tryz.prog d4s W:=h;obtain⟨ps,hv,_⟩:=hm;obtain⟨_,_,_,_,_,_,_,_,_,_,hv,_⟩:=hv;obtain⟨_,_,_,_,_,_,_,_,_,_,hv,_⟩:=hv;obtain⟨_,_,_,_,_,_,_,_,_,_,hv,_⟩:=hv;obtain⟨_,_,_,_,_,_,_,_,_,_,hv,_⟩:=hv;obtain⟨_,_,_,_,_,_,_,_,_,_,hv,_⟩:=hv;obtain⟨g,t,cs,fuel,p,q,hg,ht,hvar,hd,_,_⟩:=hv;have hg0:Tryz.prog.globalNamed "strconv.ErrSyntax"=some 1:=by kernel_rfl
 obtain rfl:=Option.some.inj (hg0.symm.trans hg);obtain rfl:=Option.some.inj ((show (Tryz.prog.globals[(1:Nat)]?).map (·.type)=some 168 by kernel_rfl).symm.trans ht);obtain⟨_,u,v,hcs,_,_⟩:=iface_of_trod Tryz.underlying168 hd;unfold World.var? at hvar;rw [hg0]at hvar;simp only [Option.bind_some]at hvar
 split at hvar
 ·rename_i c0 ty fz hh
  injection hvar with hvar;subst hvar;have h0:c0[0]?=some (.iface u v):=by rw [←Array.getElem?_toList,hcs];rfl
  exact⟨.iface u v,by simp [World.cell?,hh,h0],.inr ⟨u,v,rfl⟩⟩
 ·cases hvar
theorem d4g {W:World} (hsh:W.ShapedOpen Tryz.prog) (h:laidMetH Tryz.prog [("math/bits.deBruijn32tab",Rows.laid_math_bits_deBruijn32tab),("math/bits.deBruijn64tab",Rows.laid_math_bits_deBruijn64tab),("internal/strconv.uint64pow10",Rows.laid_internal_strconv_uint64pow10),("unicode/utf8.acceptRanges",Rows.laid_unicode_utf8_acceptRanges),("strconv.ErrRange",Rows.laid_strconv_ErrRange),("strconv.ErrSyntax",Rows.laid_strconv_ErrSyntax),("unicode/utf8.first",Rows.laid_unicode_utf8_first)] W):L.Env W:=by
 have hm:laidMet Tryz.prog d4s W:=h;obtain⟨ps,hv,_⟩:=hm
 have htab:Lib.TabIs Tryz.prog W "internal/strconv.uint64pow10" .u64 Lib.pow10Tab:=
  b0k (t:=302) (e:=89) (n:=20) L.b9j kZ Tryz.underlying302 Tryz.underlying89 kZ kZ _ _ (List.mem_cons_of_mem _ (List.mem_cons_of_mem _ (List.mem_cons_self ..))) hv
 obtain⟨_,m,hc⟩:=env_of hsh trivial;have h1:0<W.heap.size:=World.block_lt_of_cell? W _ hc;have h2:5<W.heap.size:=World.block_lt_of_cell? W _ (htab.cell L.b9j 0 dZ);exact⟨by unfold L.EB;omega,⟨m,hc⟩,htab⟩
def d3j (g b:Nat) (h:Array Obj):Array Obj:=h.modify g fun
 |.cells _ t frozen=>.cells #[.iface 306 (.pointer (some ⟨b,0,none⟩))] t frozen
 |o=>o
def c8y (l:List UInt8):Obj:=.cells #[.string ⟨l.toArray⟩] 308
noncomputable def laidWorldE (os:Os):World:=
 { laidWorldQ os with heap:=((d3j 2 ((laidWorldQ os).heap.size+1) (d3j 1 (laidWorldQ os).heap.size (laidWorldQ os).heap)).push (c8y [105,110,118,97,108,105,100,32,115,121,110,116,97,120])).push (c8y [118,97,108,117,101,32,111,117,116,32,111,102,32,114,97,110,103,101]) }
end Go.Proofs.YtggfdnopminemaaGreatDoor
