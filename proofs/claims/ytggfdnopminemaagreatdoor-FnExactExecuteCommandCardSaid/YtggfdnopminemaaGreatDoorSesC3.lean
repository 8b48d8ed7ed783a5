/- Plain: what a command keeps of a session. -/
import Derived.Test.YtggfdnopminemaaGreatDoorZt
import Derived.Test.YtggfdnopminemaaGreatDoorSesM
namespace Go.Proofs.YtggfdnopminemaaGreatDoor.P
theorem c4l {d:Dic} {t:Tr} {e:Ent} (h:(a2w d t e).2=true):trans (a2w d t e).1.1.1 (a2w d t e).1.1.2=true:=by
 unfold a2w at h⊢
 split at h
 ·rename_i hc
  rw [if_pos hc];simp only [Bool.and_eq_true]at hc;exact c1a hc.2.2 (a2o hc.1).2.2
 ·cases h
theorem b8f {s:Ses} {o:List Int} (h:trans s.1 s.2=true):trans (a2x s o).1.1 (a2x s o).1.2=true:=by
 unfold a2x
 split
 ·rename_i hc
  simp only [Bool.and_eq_true]at hc;exact c1a hc.2 (a2o h).2.2
 ·exact h
theorem c8e {s:Ses} {word:Bs} {o:List Int} (h:trans s.1 s.2=true):trans (outl s word o).1.1 (outl s word o).1.2=true:=by
 unfold outl
 split
 ·exact a9e h
 ·split
  ·exact b8f h
  ·exact h
theorem c3c {s:Ses} {word more:Bs} (h:trans s.1 s.2=true):trans (a5k s word more).1.1 (a5k s word more).1.2=true:=by
 unfold a5k
 split
 ·exact h
 ·exact c8e h
theorem b7x {s:Ses} {more:Bs} (h:trans s.1 s.2=true):trans (a1i s more).1.1 (a1i s more).1.2=true:=by
 unfold a1i
 split
 ·exact h
 ·split
  ·exact h
  ·split
   ·rename_i hc;exact c4l hc
   ·exact h
theorem c4k {s:Ses} {word:Bs} (h:trans s.1 s.2=true):trans (alone s word).1.1 (alone s word).1.2=true:=by
 unfold alone
 split
 ·exact a9e h
 ·split
  ·exact h
  ·split
   ·exact h
   ·split<;>exact h
theorem b8c {s:Ses} {more:Bs} (h:trans s.1 s.2=true):trans (a4v s more).1.1 (a4v s more).1.2=true:=by
 unfold a4v
 split
 ·exact a9e h
 ·exact h
theorem c7q {s:Ses} {word more:Bs} (h:trans s.1 s.2=true):trans (args s word more).1.1 (args s word more).1.2=true:=by
 unfold args
 split
 ·exact b8c h
 ·split
  ·exact c3c h
  ·split
   ·exact b7x h
   ·split
    ·exact h
    ·split
     ·exact h
     ·split<;>exact h
theorem b5d {s:Ses} {line:Bs} (h:trans s.1 s.2=true):trans (cmd s line).1.1 (cmd s line).1.2=true:=by
 unfold cmd
 split
 ·exact c4k h
 ·exact c7q h
theorem a7d {s:Ses} {g:LogT} (h:b8k s g=true):trans s.1 s.2=true∧a1t g.1 g.2.1 g.2.2=true:=by
 unfold b8k sess at h
 simpa only [Bool.and_eq_true] using h
theorem b4f (o:Option Bs):(a4s o).length≤200:=by
 unfold a4s
 split
 ·decide
 ·split
  ·decide
  ·omega
theorem b7w {s:Ses} {g:LogT} {line:Bs} (h:b8k s g=false):exec s g line=((s,g),wNo):=by unfold exec;rw [h];rfl
theorem b3i {s:Ses} {g:LogT} {line:Bs} (h:b8k s g=true) (h2:good line []=false):exec s g line=((s,g),wBad):=by unfold exec;rw [h,h2];rfl
theorem a9t {s:Ses} {g:LogT} {line:Bs} (h:b8k s g=true) (h2:good line []=true) (h3:g.2.2=60):exec s g line=((s,g),wFull):=by
 unfold exec;rw [h,h2,if_neg dZ,if_neg dZ,if_pos h3]
theorem b3a {s:Ses} {g:LogT} {line:Bs} (h:b8k s g=true) (h2:good line []=true) (h3:g.2.2≠60):exec s g line=(((cmd s line).1,c6h g line (a4s (cmd s line).2)),a4s (cmd s line).2):=by
 unfold exec;rw [h,h2,if_neg dZ,if_neg dZ,if_neg h3]
def Fit (s:Ses) (g:LogT):Prop:=s.1.length≤2^20∧(∀e∈s.1,e.1.length≤2^20)∧(∀e∈s.1,e.2.length≤2^30)∧s.2.1.length≤2^20∧g.1.length≤2^20∧g.2.1.length≤2^20
theorem d4o {d p:Bs} {n:Int} {c r:Bs} (h:a1t d p n=true):(appS d p n c r).1.length≤40000:=by
 obtain⟨h1,h2,h3⟩:=b9e h;unfold appS
 split
 ·show p.length≤_;omega
 ·rename_i hg
  split
  ·show p.length≤_;omega
  ·rename_i h6
   have h7:n≠60:=by simpa using h6
   have hg2:good c r=true:=by simpa [h] using hg
   have:=(a7b (k:=n.toNat) oZ hg2).1;simp only [List.length_append];omega
theorem d5j {s:Ses} {g:LogT} {line:Bs} (h:Fit s g):Fit (exec s g line).1.1 (exec s g line).1.2:=by
 by_cases h1:b8k s g=true
 ·by_cases h2:good line []=true
  ·by_cases h3:g.2.2=60
   ·rw [a9t h1 h2 h3];exact h
   ·rw [b3a h1 h2 h3];obtain⟨ht,hv⟩:=a7d h1;have hk:=b5d (line:=line) ht;have hd:=b4s hk;have hs:=(a2o hk).1;have hl:=a5w hd;refine⟨?_,?_,?_,?_,h.2.2.2.2.1,?_⟩
    ·have:=hl.1;show (cmd s line).1.1.length≤_;omega
    ·exact fun e he=>by have:=(a9g (hl.2.1 e he)).2.1;omega
    ·exact fun e he=>Nat.le_trans (c1z hd e he) dZ
    ·have:=a4q (d7j hs).2.1;show (cmd s line).1.2.1.length≤_;omega
    ·exact Nat.le_trans (d4o hv) dZ
  ·rw [b3i h1 (by simpa using h2)];exact h
 ·rw [b7w (by simpa using h1)];exact h
theorem d1w:∀(l:Dic) (k:Int),(∀e∈l,e.1.length≤6)→kAt k l≤k+7*(l.length:Int)
 |[],k,_=>by simp [kAt]
 |e::l,k,h=>by
  have h1:=d1w l (k+e.1.length+1) fun x hx=>h x (List.mem_cons_of_mem _ hx);have h2:=h e (List.mem_cons_self ..);simp only [kAt,List.length_cons];omega
theorem d4l (s:Ses) (g:LogT) (line:Bs):(exec s g line).1.1.1=s.1∨kAt 1 (exec s g line).1.1.1≤2^20:=by
 by_cases h1:b8k s g=true
 ·by_cases h2:good line []=true
  ·by_cases h3:g.2.2=60
   ·rw [a9t h1 h2 h3];exact .inl rfl
   ·rw [b3a h1 h2 h3]
    right
    have hl:=a5w (b4s (b5d (line:=line) (a7d h1).1));have:=d1w (cmd s line).1.1 1 fun e he=>(a9g (hl.2.1 e he)).2.1;have:=hl.1
    show kAt 1 (cmd s line).1.1≤_
    omega
  ·rw [b3i h1 (by simpa using h2)];exact .inl rfl
 ·rw [b7w (by simpa using h1)];exact .inl rfl
end Go.Proofs.YtggfdnopminemaaGreatDoor.P
namespace Go.Proofs.YtggfdnopminemaaGreatDoor
open Go Go.RowKit
set_option maxHeartbeats 8000000
set_option maxRecDepth 100000
theorem c5x (u:Value) (l:List Int) (w:World) (hu:IntR w u l) (hl:l.length≤2^30) :
 Calls Tryz.prog 126 #[u] w (d1l l w):=by
 obtain⟨i0,hi,hz0,hz1,hz2⟩:=info_parts a2k
 have hb0:=(Below.refl w.heap.size w).alloc lZ (.cells #[] 3)
 have HSRC:=qh (a7c (hu.below hb0))
 have HB:=qh hb0;clear hb0
 have HOWN:=qh (World.ownsRow_lit (base:=w.heap.size) (e:=3) (size:=1) w #[] 0 lZ (Nat.zero_le _) sZ)
 obtain⟨ad,cap,rfl,_,_⟩:=hu
 go_enter Tryz.func126,Tryz.ntmps126
 go_wp2_with (at_builtin;refine a0x rfl _ _ 33 rfl w.heap.size 3 i0 (.int .i64 0) 1 8 Tryz.underlying33 hi hz0 hz1 hz2 rfl dZ _ 0 [] rfl HOWN.o _ l.length (ints l) rfl HSRC.o ?_ ?_ sZ ?_)
 ·unfold maxLen;omega
 ·omega
 intro v' w' hown hgr _
 have HOW:=qh hown
 have HBB:=qh (HB.o.grown hgr sZ (fun k hk=>by simp [Value.ownBlock]at hk;omega))
 clear hown hgr
 go_wp2
 go_ret
 refine⟨_,rfl,?_,HBB.o⟩
 exact HOW.o
theorem a5p (dv sv:Value) (l:P.Dic) (st:List Int) (t:Str) (k:Int) (w:World) (hu:EntR w dv l) (hs:IntR w sv st) (hm:Small l) (hst:st.length≤2^20) (ht:t.length≤2^30) :
 Calls Tryz.prog 233 #[.agg #[dv],a0r sv t,.int .i64 k] w (b4e (P.a5v l (st,t) k) w):=by
 obtain⟨W0,hW0⟩:∃v,((((w.alloc (.cells #[dv] 26)).alloc (.cells #[sv,.string (S t)] 35)).alloc (.cells #[.slice none 0 0,.string (S [])] 35)).alloc (.cells #[.int .i64 0,.string (S [])] 55))=v:=⟨_,rfl⟩
 have hb0:Below w.heap.size w W0:=by rw [←hW0];exact ((((Below.refl w.heap.size w).alloc lZ _).alloc sZ _).alloc (by simp;omega) _).alloc (by simp;omega) _
 have hz0':W0.heap.size=w.heap.size+4:=by rw [←hW0];simp
 have hx0:PrBx w.heap.size sv t dv W0:=by
  exact zq54
 have HU:=qh (hu.below hb0);have HST:=qh (hs.below hb0);have HB0:=qh hb0
 have HX:=qh hx0;have HZ0:=qh hz0'
 clear hb0 hz0'
 obtain⟨ad,cap,rfl,_,_⟩:=hu
 obtain⟨sd,sc,rfl,_,_⟩:=hs
 unfold a0r
 go_enter Tryz.func233,Tryz.ntmps233
 go_upto_region 1 with (fail)
 try rw [hW0]
 clear hW0
 obtain⟨i0,hi,hz0,hz1,hz2⟩:=info_parts a2k
 obtain⟨⟨_,k0⟩,⟨k1,k2,k3,_⟩,_,_⟩:=hx0
 go_wp2_with fail
 refine (c4h _ _ l st t _ HU.o HST.o hm).mono ?_
 rintro e w1 ⟨rfl,hb⟩
 have HB1:=qh hb;have HX1:=qh (HX.o.below hb);have HST1:=qh (HST.o.below hb);have HU1:=qh (HU.o.below hb)
 clear hb k0 k1 k2 k3
 obtain⟨⟨_,k0⟩,⟨_,k1,k2,_,_⟩,⟨_,k3,k4,k7,k8⟩,⟨_,k5,k6,k9,k10⟩⟩:=HX1.o
 have HP:=qh (show P.a5v l (st,t) k=if P.trans l (st,t)&&P.a0p k then P.b2g l (st,t) k else ((P.tr0,(0,[])),false) from rfl)
 generalize P.trans l (st,t)=q at *
 cases q
 ·exact zq178
 ·go_wp2_with fail
  refine (c1b _ _).mono ?_;rintro e w2 ⟨rfl,rfl⟩;generalize P.a0p k=q at *
  cases q
  ·exact zq178
  ·rw [Bool.and_self,if_pos rfl]at HP;have HBW:=qh (HB0.o.trans (HB1.o.mono HB0.o.size));have hzz:w.heap.size+4≤w1.heap.size:=by have h1:=HB1.o.size;have h2:=HZ0.o;omega
   clear HB1 HX HU HST HB0 HZ0 k3 k4 k5 k6 k7 k8 k9 k10
   go_wp2_with fail
   refine (c5x _ st _ HST1.o oZ).mono ?_;rintro e x1 ⟨u,rfl,ho,hb⟩;have GB1:=qh hb;have GX1:=qh (HX1.o.below hb);have HOW:=qh ho;obtain⟨ua,uc,rfl⟩:=a0i ho;have hz1':=hb.size;clear k0 k1 k2 ho hb;have HOW2:=qh (HOW.o.alloc (.cells #[.int .i64 k] 3))
   go_wp2_with (at_builtin;refine wpList_append_own _ rfl _ _ 33 rfl w1.heap.size 3 i0 (.int .i64 0) 1 8 Tryz.underlying33 hi hz0 hz1 hz2 rfl dZ (.slice ua st.length uc) st.length (ints st) rfl HOW2.o ⟨x1.heap.size,0,none⟩ 1 1 [.int .i64 k] rfl rfl ?_ ?_ ?_ ?_ ?_ ?_)
   all_goals first|exact⟨rfl,rfl⟩|(intro z hz;simp only [List.mem_cons,List.not_mem_nil,or_false]at hz;subst hz;rfl)|(unfold maxLen;omega)|omega|(simp;omega)|(intro i z hz;rcases i with _|i;(injection hz with hz;subst hz;rw [add0];go_simp);cases hz)|skip
   intro u4 w4 hown hgr _;have R:=qh (b5r HOW.o GB1.o 3 hown hgr);have HX4:=qh (HX1.o.below R.o.2);have hz4:=R.o.2.size;clear hown hgr;obtain⟨va,vc,rfl⟩:=a0i R.o.1;have HU4:=qh (HU1.o.below R.o.2)
   go_upto_if 30 with fail
   go_cut [9] (fun u wx=>(∃a c,u=.slice a (P.next st k).length c)∧OwnK w1.heap.size wx u (P.next st k)∧Below w1.heap.size w1 wx)
   case first=>
    by_cases hk:k=1024
    ·subst hk;have HN:=qh (show P.next st 1024=(st++[1024]).take (st.length-1) by unfold P.next;rw [if_pos rfl,List.take_append_of_le_length oZ]);have HL:=qh (show (P.next st 1024).length=st.length-1 by rw [HN.o,List.length_take,List.length_append];omega);have i1:((1024:Int)==1024)=true:=rfl;obtain⟨m,hm⟩:∃m,st.length-1=m:=⟨_,rfl⟩;rw [hm]at HL;have HN2:=qh (show P.next st 1024=st.take m by unfold P.next;rw [if_pos rfl,hm]);have HMX:=qh (show max ((st.length:Int)-1) 0=(m:Int) by omega);have i7:IntKind.i64.wrap ((st.length:Int)-1)=(st.length:Int)-1:=by rw [IntKind.wrap_i64];omega
     have hbd:=(Below.refl w4.heap.size w4).drew;have HT0:=qh (HX4.o.2.1.below hbd);have HST5:=qh ((HST1.o.below R.o.2).below hbd);have HB5:=qh (R.o.2.trans (hbd.mono hz4));clear hbd
     go_upto_region 5 with fail
     refine wp_region_held_drew (S:=TBx (w.heap.size+1) (.slice sd st.length sc) t) kZ HT0.o (fun hS0=>?_);generalize w4.drew=v1 at *;refine tk14 0 hS0 ?_;refine tk14 1 hS0 ?_;refine tk14 3 hS0 ?_;refine tk14 4 hS0 ?_;refine tk14 5 hS0 ?_;refine tk14 6 hS0 ?_;refine trd 2 fun K hK=>?_
     ·go_simp;refine (c5x _ st _ HST5.o oZ).mono ?_;rintro e x2 ⟨u,rfl,ho,hb⟩;obtain⟨ya,yc,rfl⟩:=a0i ho;have HOY:=qh (a0y ho HB5.o.size);have HBY:=bt HB5 hb;refine hK.out _ _ (hS0.below hb) (fun hS1=>?_);clear hK K hS0 ho hb
      try simp only [qA,qB,qC,Act.put,qD,qE,qF]
      refine trd 7 fun K hK=>?_;go_simp;refine (l1Most _ _ _).mono ?_;rintro e x3 ⟨rfl,rfl⟩;refine hK.out _ _ hS1 (fun hS2=>?_);clear hK K hS1
      try simp only [qA,qB,qC,Act.put,qD,qE,qF]
      rw [HMX.o];have hyc:=(a1y HOY.o oZ).cap;have i5:(m:Int)≤(yc:Int):=by omega
      have i6:m≤yc:=by omega
      have HR:=qh (show OwnK w1.heap.size x3 (.slice ya m yc) (P.next st 1024) by
       rw [HN2.o]
       by_cases h0:st=[]
       ·subst h0;have hm0:m=0:=by simp at hm;omega
        subst hm0;exact HOY.o
       ·exact c1s HOY.o h0 oZ)
      refine tk14 8 hS2 ?_;refine tk14 9 hS2 ?_;refine wpAnyH_done kZ ?_ _;clear hS2;go_wp2;go_meet;exact⟨⟨ya,yc,by rw [HL.o]⟩,HR.o,HBY.o⟩
    ·have i1:(k==1024)=false:=by simpa using hk
     have HN:=qh (show st++[k]=P.next st k by unfold P.next;rw [if_neg hk]);have HR:=qh (show OwnK w1.heap.size w4 (.slice va (st++[k]).length vc) (P.next st k) by rw [←HN.o];exact R.o.1);rw [HN.o]at HR⊢;go_wp2;go_meet;exact⟨⟨_,_,rfl⟩,HR.o,R.o.2⟩
   case rest=>
    obtain⟨⟨a,c,rfl⟩,ho,hbc⟩:=hcut;have GX:=qh (HX1.o.below hbc);have GU:=qh (HU1.o.below hbc);have GB:=qh hbc;have hzc:=hbc.size;have HN:=qh (show P.b2g l (st,t) k=if (P.scr l (P.next st k)).2 then (((P.next st k,(P.scr l (P.next st k)).1),P.least t (P.scr l (P.next st k)).1),true) else ((P.tr0,(0,[])),false) from rfl);have hnl:=P.c7f st k;have hsl:=P.b9b l (P.next st k);generalize P.next st k=nx at *;have HI:=qh (a1y ho oZ);have HO4:=qh ho;obtain⟨⟨_,k0⟩,_,_,_⟩:=GX.o;clear ho hbc
    go_wp2_with fail
    refine (a4l _ _ l nx _ GU.o HI.o hm).mono ?_;rintro e w5 ⟨rfl,hb5⟩;generalize P.scr l nx=r at *;obtain⟨r1,r2⟩:=r;simp only at hsl;have HX5:=qh (GX.o.below hb5);have HB5:=qh (GB.o.trans (hb5.mono hzc));have HO5:=qh (a0h HO4.o hb5 lZ);have hz5:=hb5.size;clear hb5 k0
    cases r2
    ·obtain⟨_,⟨_,k1,k2,_⟩,⟨_,k3,k4,k7,k8⟩,⟨_,k5,k6,k9,k10⟩⟩:=HX5.o;go_wp2;refine bodyPost_ret (v:=.tuple #[a0r (.slice none 0 0) [],a1c (0,[]),.bool false]) (by simp [a0r,a1c,k3,k4,k5,k6,results,Tryz.results233,go_sem]) rfl ⟨.slice none 0 0,by rw [HP.o,HN.o];rfl,by rw [HP.o,HN.o];exact World.ownsRow_nil _ _ _ _,?_⟩;exact (((((HBW.o.trans (HB5.o.mono HBW.o.size)).setCell (by simp<;>omega) _).setCell (by simp<;>omega) _).setCell (by simp<;>omega) _).setCell (by simp<;>omega) _)
    ·obtain⟨_,⟨_,k1,k2,_⟩,_,_⟩:=HX5.o
     go_wp2_with fail
     refine (b2x t r1 _ ht oZ).mono ?_;rintro e w6 ⟨rfl,hb6⟩;have HX6:=qh (HX5.o.below hb6);have HB6:=qh (HB5.o.trans (hb6.mono (Nat.le_trans hzc hz5)));have HO6:=qh (a0h HO5.o hb6 lZ);clear hb6 k1 k2;obtain⟨_,_,⟨_,k3,k4,k7,k8⟩,⟨_,k5,k6,k9,k10⟩⟩:=HX6.o;go_wp2;refine bodyPost_ret (v:=.tuple #[a0r (.slice a nx.length c) r1,a1c (P.least t r1),.bool true]) (by simp [a0r,a1c,k3,k4,k5,k6,results,Tryz.results233,go_sem]) rfl ⟨.slice a nx.length c,by rw [HP.o,HN.o];rfl,?_,?_⟩
     ·rw [HP.o,HN.o];exact zq113
     ·exact (((((HBW.o.trans (HB6.o.mono HBW.o.size)).setCell (by simp<;>omega) _).setCell (by simp<;>omega) _).setCell (by simp<;>omega) _).setCell (by simp<;>omega) _)
set_option maxHeartbeats 8000000
def RdS (a b g p:Nat) (dv tv:Value) (t:Str) (s:Int) (v:World):Prop:=v.cell? ⟨a,0,none⟩=some dv∧v.cell? ⟨b,0,none⟩=some tv∧v.cell? ⟨b,1,none⟩=some (.string (S t))∧v.cell? ⟨g,p,none⟩=some (.int .i64 s)
theorem RdS.step {a b g p:Nat} {dv tv:Value} {t:Str} {s:Int} {v v':World} {B:Nat} (h:RdS a b g p dv tv t s v) (hb:Below B v v') (hB:a<B∧b<B∧g<B):RdS a b g p dv tv t s v':=
 ⟨(hb.cell (p:=⟨a,0,none⟩) hB.1).trans h.1,(hb.cell (p:=⟨b,0,none⟩) hB.2.1).trans h.2.1,(hb.cell (p:=⟨b,1,none⟩) hB.2.1).trans h.2.2.1,(hb.cell (p:=⟨g,p,none⟩) hB.2.2).trans h.2.2.2⟩
set_option maxHeartbeats 8000000
theorem d4c (s:Str) (w:World) (hs:s.length≤2^40) :
 Calls Tryz.prog 83 #[.string (S s)] w fun e w'=>e=.returned (.bool (P.a3k s))∧w=w':=by
 have HP:=qh (show P.a3k s=(decide ((s.length:Int)≤2000)&&s.all P.prn) from rfl)
 go_enter Tryz.func83,Tryz.ntmps83
 by_cases h:(s.length:Int)≤2000
 ·rw [decide_eq_true h,Bool.true_and]at HP
  go_wp2_with fail
  refine (a3c s _ hs).mono ?_;rintro e w' ⟨rfl,rfl⟩;generalize s.all P.prn=q at *;go_wp2;go_ret;exact⟨by rw [HP.o];rfl,rfl⟩
 ·rw [decide_eq_false h,Bool.false_and]at HP;go_wp2;go_ret;exact⟨by rw [HP.o];rfl,rfl⟩
theorem c4g (x:Int) (t:Str) (w:World) (hs:t.length≤2^40) :
 Calls Tryz.prog 84 #[.agg #[.int .i64 x,.string (S t)]] w fun e w'=>e=.returned (.bool (P.a3o (x,t)))∧Below w.heap.size w w':=by
 have HB:=qh ((Below.refl w.heap.size w).alloc lZ (.cells #[.int .i64 x,.string (S t)] 55))
 have HP:=qh (show P.a3o (x,t)=(decide (0≤x∧x≤2000)&&P.a3k t) from rfl)
 go_enter Tryz.func84,Tryz.ntmps84
 go_wp2_with fail
 refine (a2a _ _ _ _).mono ?_
 rintro e w1 ⟨rfl,rfl⟩
 obtain⟨q,hq⟩:∃q,decide (0≤x∧x≤2000)=q:=⟨_,rfl⟩
 rw [hq]at HP⊢
 clear hq
 cases q
 ·go_wp2;go_ret;exact⟨by rw [HP.o];rfl,HB.o⟩
 ·go_wp2_with fail
  refine (d4c t _ hs).mono ?_;exact zq156
theorem P.b2j {e:P.Edit} (h:P.a3o e=true):0≤e.1∧e.1≤2000∧P.a3k e.2=true:=by
 unfold P.a3o at h;simp only [Bool.and_eq_true,decide_eq_true_eq]at h;exact⟨h.1.1,h.1.2,h.2⟩
theorem c9x (n:Int) (w:World) (h0:0≤n) (h1:n≤999999) (hE:L.Env w) :
 Calls Tryz.prog 153 #[.int .i64 n] w (a7x (P.num n.toNat,true) w):=by
 go_enter Tryz.func153,Tryz.ntmps153
 go_wp2_with fail
 refine (a2a _ _ _ _).mono ?_
 rintro e w1 ⟨rfl,rfl⟩
 rw [decide_eq_true oZ]
 go_wp2_with fail
 refine (L.a5e n _ oZ oZ hE).mono ?_
 rintro e w1 ⟨rfl,hb⟩
 have HB:=qh hb
 clear hb
 go_wp2
 go_ret2
 exact⟨rfl,HB.o⟩
theorem a4y (x:Int) (t:Str) (w:World) (he:P.a3o (x,t)=true) (hE:L.Env w) :
 Calls Tryz.prog 82 #[a1c (x,t)] w (a7x (P.fmtE (x,t),true) w):=by
 obtain⟨h0,h1,h2⟩:=P.b2j he
 simp only at h0 h1 h2
 have htl:=P.a3s h2
 have HOK:=qh he
 have hb0:=(Below.refl w.heap.size w).alloc lZ (.cells #[.int .i64 x,.string (S t)] 55)
 have HX:=qh (show w.heap.size<(w.alloc (.cells #[.int .i64 x,.string (S t)] 55)).heap.size∧(w.alloc (.cells #[.int .i64 x,.string (S t)] 55)).cell? ⟨w.heap.size,0,none⟩=some (.int .i64 x)∧(w.alloc (.cells #[.int .i64 x,.string (S t)] 55)).cell? ⟨w.heap.size,1,none⟩=some (.string (S t)) from⟨by simp,by go_simp,by go_simp⟩)
 have HE:=qh (hE.below hb0 hE.size);have HB:=qh hb0
 clear hb0 hE he h2
 unfold a1c
 go_enter Tryz.func82,Tryz.ntmps82
 go_upto_region 1 with fail
 generalize (World.alloc _ _)=v0 at *
 obtain⟨_,c0,c1⟩:=HX.o
 go_wp2_with fail
 refine (c4g x t _ oZ).mono ?_
 rintro e w1 ⟨rfl,hb⟩
 have hzb:=HX.o.1
 have d0:=(hb.cell (p:=⟨w.heap.size,0,none⟩) hzb).trans c0;have d1:=(hb.cell (p:=⟨w.heap.size,1,none⟩) hzb).trans c1
 have HX1:=qh (show w.heap.size<w1.heap.size∧w1.cell? ⟨w.heap.size,0,none⟩=some (.int .i64 x)∧w1.cell? ⟨w.heap.size,1,none⟩=some (.string (S t)) from⟨Nat.lt_of_lt_of_le hzb hb.size,d0,d1⟩)
 have HE1:=qh (HE.o.below hb HE.o.size);have HB1:=bt HB hb
 rw [HOK.o]
 clear hb c0 c1 HX HE HB hzb
 go_wp2_with fail
 refine (c9x x _ h0 oZ HE1.o).mono ?_
 rintro e w2 ⟨rfl,hb⟩
 obtain⟨hzb,_,_⟩:=HX1.o
 have e1:=(hb.cell (p:=⟨w.heap.size,1,none⟩) hzb).trans d1
 have HB2:=bt HB1 hb
 have hnl:(P.num x.toNat).length≤20:=P.num_len _ oZ
 clear hb d0 d1 HX1 hzb
 go_wp2
 go_ret2
 exact⟨rfl,HB2.o⟩
theorem c9s (s:Str) (w:World) (hs:s.length≤2^40) :
 Calls Tryz.prog 370 #[.string (S s)] w fun e w'=>e=.returned (.bool (P.a3k s))∧w=w':=by
 have HP:=qh (show P.a3k s=(decide ((s.length:Int)≤2000)&&s.all P.prn) from rfl)
 go_enter Tryz.func370,Tryz.ntmps370
 by_cases h:(s.length:Int)≤2000
 ·rw [decide_eq_true h,Bool.true_and]at HP
  go_wp2_with fail
  refine (b3m s _ hs).mono ?_;rintro e w' ⟨rfl,rfl⟩;generalize s.all P.prn=q at *;go_wp2;go_ret;exact⟨by rw [HP.o];rfl,rfl⟩
 ·rw [decide_eq_false h,Bool.false_and]at HP;go_wp2;go_ret;exact⟨by rw [HP.o];rfl,rfl⟩
theorem d8y (x:Int) (t:Str) (w:World) (hs:t.length≤2^40) :
 Calls Tryz.prog 341 #[a1c (x,t)] w fun e w'=>e=.returned (.bool (P.a3o (x,t)))∧Below w.heap.size w w':=by
 have HB:=qh ((Below.refl w.heap.size w).alloc lZ (.cells #[.int .i64 x,.string (S t)] 55))
 have HP:=qh (show P.a3o (x,t)=(decide (0≤x∧x≤2000)&&P.a3k t) from rfl)
 unfold a1c
 go_enter Tryz.func341,Tryz.ntmps341
 go_wp2_with fail
 refine (l1In _ _ _ _).mono ?_
 rintro e w1 ⟨rfl,rfl⟩
 obtain⟨q,hq⟩:∃q,decide (0≤x∧x≤2000)=q:=⟨_,rfl⟩
 rw [hq]at HP⊢
 clear hq
 cases q
 ·go_wp2;go_ret;exact⟨by rw [HP.o];rfl,HB.o⟩
 ·go_wp2_with fail
  refine (c9s t _ hs).mono ?_;exact zq156
theorem b5v (x:Int) (t:Str) (w:World) (he:P.a3o (x,t)=true) :
 Calls Tryz.prog 292 #[a1c (x,t)] w (a7x (P.fmtE (x,t),true) w):=by
 obtain⟨h0,h1,h2⟩:=P.b2j he
 simp only at h0 h1 h2
 have htl:=P.a3s h2
 have HOK:=qh he
 have hb0:=(Below.refl w.heap.size w).alloc lZ (.cells #[.int .i64 x,.string (S t)] 55)
 have HX:=qh (show w.heap.size<(w.alloc (.cells #[.int .i64 x,.string (S t)] 55)).heap.size∧(w.alloc (.cells #[.int .i64 x,.string (S t)] 55)).cell? ⟨w.heap.size,0,none⟩=some (.int .i64 x)∧(w.alloc (.cells #[.int .i64 x,.string (S t)] 55)).cell? ⟨w.heap.size,1,none⟩=some (.string (S t)) from⟨by simp,by go_simp,by go_simp⟩)
 have HB:=qh hb0
 clear hb0 he h2
 unfold a1c
 go_enter Tryz.func292,Tryz.ntmps292
 go_upto_region 1 with fail
 generalize (World.alloc _ _)=v0 at *
 obtain⟨_,c0,c1⟩:=HX.o
 go_wp2_with fail
 refine (d8y x t _ oZ).mono ?_
 rintro e w1 ⟨rfl,hb⟩
 have hzb:=HX.o.1
 have d0:=(hb.cell (p:=⟨w.heap.size,0,none⟩) hzb).trans c0;have d1:=(hb.cell (p:=⟨w.heap.size,1,none⟩) hzb).trans c1
 have HZ:=qh (show w.heap.size<w1.heap.size from Nat.lt_of_lt_of_le hzb hb.size)
 have HB1:=bt HB hb
 have hnl:(P.num x.toNat).length≤20:=P.num_len _ oZ
 rw [HOK.o]
 clear hb c0 c1 HX HB hzb
 go_wp2_with fail
 go_quiet ((go_at_call 197;exact Calls.quiet_of (L.b8t x _ h0 oZ)))
 go_wp2
 go_ret2
 exact⟨rfl,below_drewN HB1.o _⟩
end Go.Proofs.YtggfdnopminemaaGreatDoor
