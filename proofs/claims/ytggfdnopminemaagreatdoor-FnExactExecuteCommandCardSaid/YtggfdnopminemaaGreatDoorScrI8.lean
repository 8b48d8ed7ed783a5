/- Walks: translators checked and pressed (program). -/
import Derived.Test.YtggfdnopminemaaGreatDoorZt
import Derived.Test.YtggfdnopminemaaGreatDoorSessD
namespace Go.Proofs.YtggfdnopminemaaGreatDoor
open Go Go.RowKit
set_option maxRecDepth 100000
theorem has (u:Value) (l:List Int) (x:Int) (w:World) (hu:IntR w u l) :
 Calls Tryz.prog 183 #[u,.int .i64 x] w fun e w'=>e=.returned (.bool (l.contains x))∧w'=w:=by
 obtain⟨ad,cap,rfl,⟨hl,hc⟩,hn,h3⟩:=hu
 have HC:=qh (show Calls Tryz.prog 246 #[.slice ad l.length cap,.int .i64 x] w fun e w'=>e=.returned (.bool (l.contains x))∧w'=w by
  rcases h3 with rfl|⟨g,o,rfl,hg,hcell⟩
  ·exact Tryz.slices_Contains_int_empty ad cap x w
  ·have h:=Tryz.slices_Contains_int g o l.length cap l x w lZ oZ (fun j hj=>by rw [hcell j hj];simp [hj]);rw [List.take_length]at h;exact h)
 clear h3 hn
 obtain⟨q,hq⟩:∃q,l.contains x=q:=⟨_,rfl⟩
 rw [hq]at HC⊢
 clear hq
 go_enter Tryz.func183,Tryz.ntmps183
 go_wp2_with fail
 refine HC.o.mono ?_
 rintro e w' ⟨rfl,rfl⟩
 go_wp2
 go_ret
 exact⟨rfl,rfl⟩
def TBx (b:Nat) (u:Value) (t:Str) (v:World):Prop:=b<v.heap.size∧v.cell? ⟨b,0,none⟩=some u∧v.cell? ⟨b,1,none⟩=some (.string (S t))∧v.frozen? ⟨b,0,none⟩=false∧v.frozen? ⟨b,1,none⟩=false
theorem TBx.below {b:Nat} {u:Value} {t:Str} {v v':World} (h:TBx b u t v) (hb:Below v.heap.size v v'):TBx b u t v':=by
 exact zq103
theorem TBx.new (u:Value) (t:Str) (v:World):TBx v.heap.size u t (v.alloc (.cells #[u,.string (S t)] 35)):=⟨by simp,by go_simp,by go_simp,by go_simp,by go_simp⟩
theorem a2j (dv sv:Value) (l:P.Dic) (st:List Int) (t:Str) (w:World) (hu:EntR w dv l) (hs:IntR w sv st) (hm:Small l) (hE:Env w) :
 Calls Tryz.prog 106 #[.agg #[dv],a0r sv t] w fun e w'=>e=.returned (.bool (P.trans l (st,t)))∧Below w.heap.size w w':=by
 have hb0:Below w.heap.size w ((w.alloc (.cells #[dv] 26)).alloc (.cells #[sv,.string (S t)] 35)):=((Below.refl w.heap.size w).alloc lZ _).alloc sZ _
 have HU:=qh (hu.below hb0);have HST:=qh (hs.below hb0);have HB0:=qh hb0;have HE:=qh (hE.below hb0 hE.size)
 have HX:=qh (show TBx (w.heap.size+1) sv t ((w.alloc (.cells #[dv] 26)).alloc (.cells #[sv,.string (S t)] 35)) by simpa using TBx.new sv t (w.alloc (.cells #[dv] 26)))
 clear hb0
 obtain⟨ad,cap,rfl,_,_⟩:=hu
 obtain⟨sd,sc,rfl,_,_⟩:=hs
 unfold a0r
 go_enter Tryz.func106,Tryz.ntmps106
 go_wp2_with fail
 refine (a4h _ _ l st _ HU.o HST.o hm HE.o).mono ?_
 rintro e w1 ⟨rfl,hb⟩
 have HB1:=bt HB0 hb;have HST1:=qh (HST.o.below hb);have HX1:=qh (HX.o.below hb)
 have HP:=qh (show P.trans l (st,t)=((P.scr l st).2&&((P.scr l st).1==t&&!st.contains 1024)) from rfl)
 clear hb
 generalize P.scr l st=r at *
 obtain⟨r1,r2⟩:=r
 obtain⟨k0,k1,k2,_⟩:=HX1.o
 cases r2
 ·go_wp2;go_ret;exact⟨by rw [HP.o];rfl,HB1.o⟩
 ·by_cases h:r1=t
  ·subst h
   go_wp2_with fail
   refine (has _ st 1024 _ HST1.o).mono ?_;rintro e w2 ⟨rfl,rfl⟩;obtain⟨q,hq⟩:∃q,st.contains 1024=q:=⟨_,rfl⟩;rw [hq]at HP⊢;clear hq;go_wp2;go_ret;exact⟨by rw [HP.o];simp,HB1.o⟩
  ·exact zq138
namespace P
theorem c7f (l:List Int) (k:Int):(next l k).length≤l.length+1:=by
 unfold next
 split
 ·rw [List.length_take];omega
 ·rw [List.length_append];simp
end P
set_option maxHeartbeats 2000000
theorem a1y {B:Nat} {v:World} {u:Value} {l:List Int} (h:OwnK B v u l) (hl:l.length≤2^45):IntR v u l:=by
 have h':=h
 rcases h.2 with⟨rfl,h0⟩|⟨g,cap,cur,rfl,h1,h2,h3,h4,h5⟩
 ·have:l=[]:=by cases l with
   |nil=>rfl
   |cons=>simp at h0
  subst this;exact⟨none,0,rfl,⟨by simp,by simp⟩,fun _=>rfl,.inl rfl⟩
 ·refine⟨some ⟨g,0,none⟩,cap,rfl,⟨hl,h3⟩,(fun h=>by cases h),.inr ⟨g,0,rfl,?_,fun j hj=>?_⟩⟩
  ·exact (World.ownsRow.lt h' g rfl).2
  ·rw [Nat.zero_add,World.ownsRow.cellAt h' j oZ];unfold ints;rw [List.getElem?_map,List.getElem?_eq_getElem hj];rfl
theorem IntR.cap {v:World} {a:Option Addr} {n c:Nat} {l:List Int} (h:IntR v (.slice a n c) l):l.length≤c:=by
 obtain⟨ad,cap,h1,h2,_⟩:=h;injection h1 with _ _ h3;subst h3;exact h2.2
theorem c1s {B:Nat} {v:World} {a:Option Addr} {c m:Nat} {l:List Int} (h:OwnK B v (.slice a l.length c) l) (hl:l≠[]) (hm:m≤l.length):OwnK B v (.slice a m c) (l.take m):=by
 have hml:(l.take m).length=m:=by rw [List.length_take];omega
 rcases h.2 with⟨h1,h0⟩|⟨g,cap,cur,h0,h1,h2,h3,h4,h5,h6⟩
 ·exact absurd (List.eq_nil_of_length_eq_zero h0) hl
 ·injection h0 with h7 _ h8;subst h7 h8;refine⟨by simp [ints],.inr ⟨g,c,cur,by rw [hml],h1,h2,by omega,h4,h5,?_⟩⟩;rw [hml];have h9:(cur.toList.take (l.length*1)).take m=(ints l).take m:=by rw [h6]
  rw [List.take_take,Nat.min_eq_left oZ]at h9;rw [Nat.mul_one,h9];unfold ints;rw [List.map_take]
def EBx (b:Nat) (v:World):Prop:=b<v.heap.size∧v.cell? ⟨b,0,none⟩=some (.int .i64 0)∧v.cell? ⟨b,1,none⟩=some (.string (S []))∧v.frozen? ⟨b,0,none⟩=false∧v.frozen? ⟨b,1,none⟩=false
theorem EBx.below {b:Nat} {v v':World} (h:EBx b v) (hb:Below v.heap.size v v'):EBx b v':=by
 exact zq103
def PrBx (b:Nat) (sv:Value) (t:Str) (dv:Value) (v:World):Prop:=(b<v.heap.size∧v.cell? ⟨b,0,none⟩=some dv)∧TBx (b+1) sv t v∧TBx (b+1+1) (.slice none 0 0) [] v∧EBx (b+1+1+1) v
theorem PrBx.below {b:Nat} {sv dv:Value} {t:Str} {v v':World} (h:PrBx b sv t dv v) (hb:Below v.heap.size v v'):PrBx b sv t dv v':=
 ⟨⟨Nat.lt_of_lt_of_le h.1.1 hb.size,(hb.cell (p:=⟨b,0,none⟩) h.1.1).trans h.1.2⟩,h.2.1.below hb,h.2.2.1.below hb,h.2.2.2.below hb⟩
def a1c (e:P.Edit):Value:=.agg #[.int .i64 e.1,.string (S e.2)]
def b4e (r:(P.Tr×P.Edit)×Bool) (w:World) (e:Ending) (w':World):Prop:=
 ∃u,e=.returned (.tuple #[a0r u r.1.1.2,a1c r.1.2,.bool r.2])∧OwnK w.heap.size w' u r.1.1.1∧Below w.heap.size w w'
theorem a5v (dv sv:Value) (l:P.Dic) (st:List Int) (t:Str) (k:Int) (w:World) (hu:EntR w dv l) (hs:IntR w sv st) (hm:Small l) (hE:Env w) (hst:st.length≤2^20) (ht:t.length≤2^30) :
 Calls Tryz.prog 268 #[.agg #[dv],a0r sv t,.int .i64 k] w (b4e (P.b2g l (st,t) k) w):=by
 obtain⟨i0,hi,hz0,hz1,hz2⟩:=info_parts a2k
 obtain⟨W0,hW0⟩:∃v,((((w.alloc (.cells #[dv] 26)).alloc (.cells #[sv,.string (S t)] 35)).alloc (.cells #[.slice none 0 0,.string (S [])] 35)).alloc (.cells #[.int .i64 0,.string (S [])] 55))=v:=⟨_,rfl⟩
 have hb0:Below w.heap.size w W0:=by rw [←hW0];exact ((((Below.refl w.heap.size w).alloc lZ _).alloc sZ _).alloc (by simp;omega) _).alloc (by simp;omega) _
 have hz0':W0.heap.size=w.heap.size+4:=by rw [←hW0];simp
 have hx0:PrBx w.heap.size sv t dv W0:=by
  exact zq54
 have HU:=qh (hu.below hb0);have HST:=qh (hs.below hb0);have HB0:=qh hb0;have HE:=qh (hE.below hb0 hE.size)
 have HX:=qh hx0;have HZ0:=qh hz0'
 clear hb0 hz0'
 obtain⟨ad,cap,rfl,_,_⟩:=hu
 obtain⟨sd,sc,rfl,_,_⟩:=hs
 unfold a0r
 go_enter Tryz.func268,Tryz.ntmps268
 go_upto_region 1 with (fail)
 try rw [hW0]
 clear hW0
 obtain⟨k0,⟨k1,k2,k3,_⟩,_,_⟩:=hx0
 go_wp2_with fail
 refine (a8k _ st _ HST.o oZ).mono ?_
 rintro e w1 ⟨u,rfl,ho,hb⟩
 have HB1:=qh hb;have HX1:=qh (HX.o.below hb);have HOW:=qh ho
 obtain⟨ua,uc,rfl⟩:=a0i ho
 have hz1':=hb.size
 clear k0 k1 k2 k3 ho hb
 have HOW2:=qh (HOW.o.alloc (.cells #[.int .i64 k] 3))
 go_wp2_with (at_builtin;refine wpList_append_own _ rfl _ _ 33 rfl W0.heap.size 3 i0 (.int .i64 0) 1 8 Tryz.underlying33 hi hz0 hz1 hz2 rfl dZ (.slice ua st.length uc) st.length (ints st) rfl HOW2.o ⟨w1.heap.size,0,none⟩ 1 1 [.int .i64 k] rfl rfl ?_ ?_ ?_ ?_ ?_ ?_)
 all_goals first|exact⟨rfl,rfl⟩|(intro z hz;simp only [List.mem_cons,List.not_mem_nil,or_false]at hz;subst hz;rfl)|(unfold maxLen;omega)|omega|(simp;omega)|(intro i z hz;rcases i with _|i;(injection hz with hz;subst hz;rw [add0];go_simp);cases hz)|skip
 intro u4 w4 hown hgr _
 have R:=qh (b5r HOW.o HB1.o 3 hown hgr)
 have HX4:=qh (HX.o.below R.o.2)
 have hz4:=R.o.2.size
 clear hown hgr
 obtain⟨va,vc,rfl⟩:=a0i R.o.1
 have HE4:=qh (HE.o.below R.o.2 HE.o.size)
 have HU4:=qh (HU.o.below R.o.2)
 go_upto_if 19 with fail
 go_cut [9] (fun u wx=>(∃a c,u=.slice a (P.next st k).length c)∧OwnK W0.heap.size w4 u (P.next st k)∧w4=wx)
 case first=>
  by_cases hk:k=1024
  ·subst hk;have HN:=qh (show P.next st 1024=(st++[1024]).take (st.length-1) by unfold P.next;rw [if_pos rfl,List.take_append_of_le_length oZ]);have HL:=qh (show (P.next st 1024).length=st.length-1 by rw [HN.o,List.length_take,List.length_append];omega);have i1:((1024:Int)==1024)=true:=rfl;obtain⟨m,hm⟩:∃m,st.length-1=m:=⟨_,rfl⟩;rw [hm]at HN HL;have i2:max (0:Int) ((st.length:Int)+1-2)=(m:Int):=by omega
   have hvc:=(a1y R.o.1 (by rw [List.length_append];simp;omega)).cap;rw [List.length_append]at hvc;simp only [List.length_cons,List.length_nil]at hvc;have i3:m≤vc:=by omega
   have i4:(m:Int)≤(vc:Int):=by omega
   have HR:=qh (show OwnK W0.heap.size w4 (.slice va m vc) (P.next st 1024) by rw [HN.o];exact c1s R.o.1 sZ (by rw [List.length_append];omega));go_wp2;go_meet;exact⟨⟨va,vc,by rw [HL.o]⟩,HR.o,rfl⟩
  ·have i1:(k==1024)=false:=by simpa using hk
   have HN:=qh (show st++[k]=P.next st k by unfold P.next;rw [if_neg hk]);have HR:=qh (show OwnK W0.heap.size w4 (.slice va (st++[k]).length vc) (P.next st k) by rw [←HN.o];exact R.o.1);rw [HN.o]at HR⊢;go_wp2;go_meet;exact⟨⟨_,_,rfl⟩,HR.o,rfl⟩
 case rest=>
  obtain⟨⟨a,c,rfl⟩,ho,rfl⟩:=hcut;have HN:=qh (show P.b2g l (st,t) k=if (P.scr l (P.next st k)).2 then (((P.next st k,(P.scr l (P.next st k)).1),P.least t (P.scr l (P.next st k)).1),true) else ((P.tr0,(0,[])),false) from rfl);have hnl:=P.c7f st k;have hsl:=P.b9b l (P.next st k);generalize P.next st k=nx at *;have HI:=qh (a1y ho oZ);have HO4:=qh ho;obtain⟨⟨_,k0⟩,_,_,_⟩:=HX4.o;clear ho HOW HOW2 HB1 HX1 HST hz1'
  go_wp2_with fail
  refine (a4h _ _ l nx _ HU4.o HI.o hm HE4.o).mono ?_;rintro e w5 ⟨rfl,hb5⟩;generalize P.scr l nx=r at *;obtain⟨r1,r2⟩:=r;simp only at hsl;have HX5:=qh (HX4.o.below hb5);have HB5:=qh (R.o.2.trans (hb5.mono hz4));have HO5:=qh (a0h HO4.o hb5 lZ);have hz5:=hb5.size;clear hb5 k0
  cases r2
  ·obtain⟨_,⟨_,k1,k2,_⟩,⟨_,k3,k4,k7,k8⟩,⟨_,k5,k6,k9,k10⟩⟩:=HX5.o;go_wp2;refine bodyPost_ret (v:=.tuple #[a0r (.slice none 0 0) [],a1c (0,[]),.bool false]) (by simp [a0r,a1c,k3,k4,k5,k6,results,Tryz.results268,go_sem]) rfl ⟨.slice none 0 0,by rw [HN.o];rfl,by rw [HN.o];exact World.ownsRow_nil _ _ _ _,?_⟩;exact (((((HB0.o.trans (HB5.o.mono HB0.o.size)).setCell (by simp<;>omega) _).setCell (by simp<;>omega) _).setCell (by simp<;>omega) _).setCell (by simp<;>omega) _)
  ·obtain⟨_,⟨_,k1,k2,_⟩,_,_⟩:=HX5.o
   go_wp2_with fail
   refine (a7w t r1 _ ht oZ).mono ?_;rintro e w6 ⟨rfl,hb6⟩;have HX6:=qh (HX5.o.below hb6);have HB6:=qh (HB5.o.trans (hb6.mono (Nat.le_trans hz4 hz5)));have HO6:=qh (a0h HO5.o hb6 lZ);clear hb6 k1 k2;obtain⟨_,_,⟨_,k3,k4,k7,k8⟩,⟨_,k5,k6,k9,k10⟩⟩:=HX6.o;have hzz:=HZ0.o;go_wp2;refine bodyPost_ret (v:=.tuple #[a0r (.slice a nx.length c) r1,a1c (P.least t r1),.bool true]) (by simp [a0r,a1c,k3,k4,k5,k6,results,Tryz.results268,go_sem]) rfl ⟨.slice a nx.length c,by rw [HN.o];rfl,?_,?_⟩
   ·rw [HN.o];exact zq113
   ·exact (((((HB0.o.trans (HB6.o.mono HB0.o.size)).setCell (by simp<;>omega) _).setCell (by simp<;>omega) _).setCell (by simp<;>omega) _).setCell (by simp<;>omega) _)
theorem a5l (dv sv:Value) (l:P.Dic) (st:List Int) (t:Str) (k:Int) (w:World) (hu:EntR w dv l) (hs:IntR w sv st) (hm:Small l) (hE:Env w) (hst:st.length≤2^20) (ht:t.length≤2^30) :
 Calls Tryz.prog 207 #[.agg #[dv],a0r sv t,.int .i64 k] w (b4e (P.a5v l (st,t) k) w):=by
 obtain⟨W0,hW0⟩:∃v,((((w.alloc (.cells #[dv] 26)).alloc (.cells #[sv,.string (S t)] 35)).alloc (.cells #[.slice none 0 0,.string (S [])] 35)).alloc (.cells #[.int .i64 0,.string (S [])] 55))=v:=⟨_,rfl⟩
 have hb0:Below w.heap.size w W0:=by rw [←hW0];exact ((((Below.refl w.heap.size w).alloc lZ _).alloc sZ _).alloc (by simp;omega) _).alloc (by simp;omega) _
 have hz0':W0.heap.size=w.heap.size+4:=by rw [←hW0];simp
 have hx0:PrBx w.heap.size sv t dv W0:=by
  exact zq54
 have HU:=qh (hu.below hb0);have HST:=qh (hs.below hb0);have HB0:=qh hb0;have HE:=qh (hE.below hb0 hE.size)
 have HX:=qh hx0;have HZ0:=qh hz0'
 clear hb0 hz0'
 obtain⟨ad,cap,rfl,_,_⟩:=hu
 obtain⟨sd,sc,rfl,_,_⟩:=hs
 unfold a0r
 go_enter Tryz.func207,Tryz.ntmps207
 go_upto_region 1 with (fail)
 try rw [hW0]
 clear hW0
 obtain⟨⟨_,k0⟩,⟨k1,k2,k3,_⟩,_,_⟩:=hx0
 go_wp2_with fail
 refine (a2j _ _ l st t _ HU.o HST.o hm HE.o).mono ?_
 rintro e w1 ⟨rfl,hb⟩
 have HB1:=qh hb;have HX1:=qh (HX.o.below hb);have HST1:=qh (HST.o.below hb);have HU1:=qh (HU.o.below hb);have HE1:=qh (HE.o.below hb HE.o.size)
 clear hb k0 k1 k2 k3
 obtain⟨⟨_,k0⟩,⟨_,k1,k2,_,_⟩,⟨_,k3,k4,k7,k8⟩,⟨_,k5,k6,k9,k10⟩⟩:=HX1.o
 have HP:=qh (show P.a5v l (st,t) k=if P.trans l (st,t)&&P.a0p k then P.b2g l (st,t) k else ((P.tr0,(0,[])),false) from rfl)
 generalize P.trans l (st,t)=q at *
 cases q
 ·exact zq177
 ·go_wp2_with fail
  refine (a4j _ _).mono ?_;rintro e w2 ⟨rfl,rfl⟩;generalize P.a0p k=q at *
  cases q
  ·exact zq177
  ·go_wp2_with fail
   refine (a5v _ _ l st t k _ HU1.o HST1.o hm HE1.o hst ht).mono ?_;rintro e w3 ⟨u,rfl,ho,hb⟩;rw [Bool.and_self,if_pos rfl]at HP;have HX3:=qh (HX1.o.below hb);have HO:=qh ho;have HB3:=qh (HB0.o.trans ((HB1.o.trans (hb.mono HB1.o.size)).mono HB0.o.size));have hzz:w.heap.size+4≤w1.heap.size:=by have h1:=HB1.o.size;have h2:=HZ0.o;omega
   generalize P.b2g l (st,t) k=r at *;obtain⟨⟨⟨nx,r1⟩,ed⟩,ok⟩:=r;simp only at ho HO⊢;obtain⟨va,vc,rfl⟩:=a0i ho;clear ho hb k0 k1 k2 k3 k4 k5 k6 k7 k8 k9 k10;obtain⟨_,_,⟨_,k3,k4,k7,k8⟩,⟨_,k5,k6,k9,k10⟩⟩:=HX3.o;unfold a0r a1c;go_wp2;refine bodyPost_ret (v:=.tuple #[a0r (.slice va nx.length vc) r1,a1c ed,.bool ok]) (by simp [a0r,a1c,k3,k4,k5,k6,results,Tryz.results207,go_sem]) rfl ⟨.slice va nx.length vc,by rw [HP.o],?_,?_⟩
   ·rw [HP.o];exact a0y (ownsRow_setCell_below (ownsRow_setCell_below (ownsRow_setCell_below (ownsRow_setCell_below HO.o (by simp<;>omega) _) (by simp<;>omega) _) (by simp<;>omega) _) (by simp<;>omega) _) oZ
   ·exact ((((HB3.o.setCell (by simp<;>omega) _).setCell (by simp<;>omega) _).setCell (by simp<;>omega) _).setCell (by simp<;>omega) _)
def BetO (lo hi:Nat) (u:Value):Blk:=fun b=>(lo≤b∧b<hi)∧u.ownBlock=some b
theorem a8b {B:Nat} {v:World} {u:Value} {l:List Int} (h:OwnK B v u l) (hl:l.length≤2^30):Ints v (BetO B v.heap.size u) u l:=by
 rcases id h.2 with⟨rfl,h0⟩|⟨g,cap,cur,hv,hg,hh,hnc,_⟩
 ·rw [List.eq_nil_of_length_eq_zero h0];exact RowO.nil _ _
 ·have hob:u.ownBlock=some g:=by rw [hv];rfl
  have hlt:=(World.ownsRow.lt h g hob).2;have hBl:BetO B v.heap.size u g:=⟨⟨hg,hlt⟩,hob⟩;subst hv;refine a6m (fun j hj=>?_) hBl (fun b hb=>hb.1.2) hl hnc;exact zq117
theorem c2n (u:Value) (l:List Int) (t:Str) (left:Int) (w:World) (hu:IntA w u l) (ht:t.length≤9223372036854775807) (h0:0≤left) (h1:left≤2^20) :
 Calls Tryz.prog 91 #[.agg #[u,.string (S t)],.int .i64 left] w (b7j left (l.length+t.length) w):=by
 have hb0:=(Below.refl w.heap.size w).alloc lZ (.cells #[u,.string (S t)] 71)
 have HU:=qh (hu.below hb0);have HB0:=qh hb0;clear hb0
 obtain⟨ad,cap,rfl,hl,_⟩:=hu
 go_enter Tryz.func91,Tryz.ntmps91
 go_wp2_with fail
 refine (d7k _ l left _ HU.o h0 h1).mono ?_
 rintro e w1 ⟨⟨r,rfl,hr1,hr2⟩,hb⟩
 have hz:=c2x hb
 obtain⟨hcc,_⟩:=a4k hb
 have c1:w1.cell? ⟨w.heap.size,1,none⟩=some (.string (S t)):=by rw [hcc _ _ sZ];go_simp
 have HB1:=qh (HB0.o.trans (hb.mono sZ))
 clear hb hcc
 have HR:=qh hr2;clear hr2
 by_cases hlt:r<0
 ·exact zq86
 ·exact zq179
theorem b9n (u:Value) (l:List Int) (t:Str) (w:World) (hu:IntR w u l) (hl:l.length≤2^20) :
 Calls Tryz.prog 96 #[.agg #[u,.string (S t)]] w (c4q l t w):=by
 have hb0:Below w.heap.size w (((w.alloc (.cells #[u,.string (S t)] 71)).alloc (.cells #[.slice none 0 0,.string (S [])] 35)).alloc (.cells #[.slice none 0 0,.string (S [])] 35)):=
  (((Below.refl w.heap.size w).alloc lZ _).alloc sZ _).alloc (by simp;omega) _
 have HU:=qh (hu.below hb0)
 have HB0:=qh hb0;clear hb0
 obtain⟨ad,cap,rfl,_,_⟩:=hu
 go_enter Tryz.func96,Tryz.ntmps96
 go_wp2_with fail
 refine (d6u _ l _ HU.o hl).mono ?_
 rintro e w1 ⟨u',rfl,hI,hb⟩
 have hz:w.heap.size+2<w1.heap.size:=by have:=hb.size;simp at this;omega
 obtain⟨hcc,hff⟩:=a4k hb
 have c1:w1.cell? ⟨w.heap.size,1,none⟩=some (.string (S t)):=by rw [hcc _ _ (by simp;omega)];go_simp
 have r0:w1.cell? ⟨w.heap.size+1,0,none⟩=some (.slice none 0 0):=by rw [hcc _ _ sZ];go_simp
 have r1:w1.cell? ⟨w.heap.size+1,1,none⟩=some (.string (S [])):=by rw [hcc _ _ sZ];go_simp
 have q0:w1.cell? ⟨w.heap.size+2,0,none⟩=some (.slice none 0 0):=by rw [hcc _ _ sZ];go_simp
 have q1:w1.cell? ⟨w.heap.size+2,1,none⟩=some (.string (S [])):=by rw [hcc _ _ sZ];go_simp
 have s0:w1.frozen? ⟨w.heap.size+1,0,none⟩=false:=by rw [hff _ _ sZ];go_simp
 have s1:w1.frozen? ⟨w.heap.size+1,1,none⟩=false:=by rw [hff _ _ sZ];go_simp
 have p0:w1.frozen? ⟨w.heap.size+2,0,none⟩=false:=by rw [hff _ _ sZ];go_simp
 have p1:w1.frozen? ⟨w.heap.size+2,1,none⟩=false:=by rw [hff _ _ sZ];go_simp
 have HI:=qh hI
 have HB1:=qh (HB0.o.trans (hb.mono (by simp;omega)))
 obtain⟨ad',cap',rfl,_,_⟩:=hI
 clear hb hcc hff HU HB0
 go_wp2
 refine bodyPost_ret (v:=.agg #[.slice ad' l.length cap',.string (S t)]) (by simp [results,Tryz.results96,go_sem,r0,r1]) rfl ⟨_,rfl,?_,?_⟩
 ·exact zq87
 ·exact (((HB1.o.setCell (by simp;omega) _).setCell (by simp;omega) _).setCell sZ _).setCell sZ _
set_option maxHeartbeats 4000000
theorem c4v (dv x:Value) (l:P.Dic) (o:List Int) (t:Str) (w:World) (hu:EntR w dv l) (ho:IntR w x o) (hs:Small l) (h1:o.length≤2^20) (h2:t.length≤2^30) :
 Calls Tryz.prog 295 #[.agg #[dv],.agg #[x,.string (S t)]] w (d2r (o,t) l w):=by
 have hb0:Below w.heap.size w (((w.alloc (.cells #[dv] 26)).alloc (.cells #[x,.string (S t)] 119)).alloc (.cells #[.slice none 0 0] 26)):=(((Below.refl w.heap.size w).alloc lZ _).alloc sZ _).alloc (by simp;omega) _
 have HU:=qh (hu.below hb0);have HO:=qh (ho.below hb0)
 have HB0:=qh hb0;clear hb0
 have HN:=qh (IBox.new dv x t w)
 have HSM:=qh hs;clear hs
 have HL1:=qh h1;have HL2:=qh h2;clear h1 h2
 obtain⟨ad,cap,rfl,_,_⟩:=hu
 obtain⟨od,oc,rfl,_,_⟩:=ho
 go_enter Tryz.func295,Tryz.ntmps295
 go_wp2_with fail
 refine (c1d _ l _ HU.o HSM.o.texts).mono ?_
 rintro e w1 ⟨rfl,hb⟩
 have HU1:=qh (HU.o.below hb);have HO1:=qh (HO.o.below hb)
 have HN1:=qh (HN.o.below hb)
 have HB1:=qh (HB0.o.trans (hb.mono (by simp;omega)))
 clear hb HU HB0 HN HO
 cases hd:P.dic l
 ·have HD:=qh (show P.a3n (o,t) l=false by unfold P.a3n;rw [hd];rfl);clear hd;obtain⟨_,_,_,b0,f0,_⟩:=HN1.o;go_wp2;refine bodyPost_ret (v:=.tuple #[.agg #[.slice none 0 0],.bool false]) (by simp [results,Tryz.results295,go_sem,b0]) rfl ⟨_,by rw [HD.o],?_,?_⟩
  ·rw [HD.o];exact RowO.nil _ _
  ·exact HB1.o.setCell (by simp;omega) _
 ·have HDC:=qh hd;clear hd;obtain⟨a0,a1,a2,_⟩:=HN1.o
  go_wp2_with fail
  refine (b4c _ o t _ HO1.o HL2.o).mono ?_;rintro e w2 ⟨rfl,hb⟩;have HU2:=qh (HU1.o.below hb);have HO2:=qh (HO1.o.below hb);have HN2:=qh (HN1.o.below hb);have HB2:=bt HB1 hb;clear hb HU1 HB1 HN1 HO1 a0 a1 a2
  cases he:P.entry (o,t)
  ·have HD:=qh (show P.a3n (o,t) l=false by unfold P.a3n;rw [he,Bool.false_and,Bool.and_false]);clear he;obtain⟨_,_,_,b0,f0,_⟩:=HN2.o;go_wp2;refine bodyPost_ret (v:=.tuple #[.agg #[.slice none 0 0],.bool false]) (by simp [results,Tryz.results295,go_sem,b0]) rfl ⟨_,by rw [HD.o],?_,?_⟩
   ·rw [HD.o];exact RowO.nil _ _
   ·exact HB2.o.setCell (by simp;omega) _
  ·have HEN:=qh he;clear he;obtain⟨a0,a1,a2,_⟩:=HN2.o
   go_wp2_with fail
   refine (l6Put _ _ l o t _ HU2.o HO2.o HSM.o.len HSM.o.outs HL1.o).mono ?_;rintro e w4 ⟨u4,rfl,hI,hb⟩;have HZ2:=qh HN2.o.2.2.2.2.2;have HN5:=qh (HN2.o.below hb);have HB6:=bt HB2 hb;have hba:=(Below.refl w4.heap.size w4).alloc lZ (.cells #[u4] 26);have HI:=qh hI;obtain⟨u4d,u4c,rfl,hlp,_⟩:=hI;have HZ4:=qh (show w2.heap.size≤w4.heap.size from hb.size);clear hb HN2 HB2 a0 a1 a2;have HI2:=qh (show Ents _ _ _ (P.putF (o,t) false l) from HI.o.below a0b hba);have HN6:=qh (HN5.o.below hba);have HB7:=bt HB6 hba;clear hba HN5 HB6;obtain⟨_,_,_,b0,f0,_⟩:=HN6.o
   by_cases hlen:(40:Int)<((P.putF (o,t) false l).length:Int)
   ·have HD:=qh (show P.a3n (o,t) l=false by unfold P.a3n;rw [HDC.o,HEN.o,decide_eq_false oZ];rfl);go_wp2;refine bodyPost_ret (v:=.tuple #[.agg #[.slice none 0 0],.bool false]) (by simp [results,Tryz.results295,go_sem,b0]) rfl ⟨_,by rw [HD.o],?_,?_⟩
    ·rw [HD.o];exact RowO.nil _ _
    ·exact HB7.o.setCell (by simp;omega) _
   ·have HD:=qh (show P.a3n (o,t) l=true by unfold P.a3n;rw [HDC.o,HEN.o,decide_eq_true oZ];rfl);go_wp2;refine bodyPost_ret (v:=.tuple #[.agg #[.slice u4d (P.putF (o,t) false l).length u4c],.bool true]) (by simp [results,Tryz.results295,go_sem,b0]) rfl ⟨_,by rw [HD.o],?_,?_⟩
    ·rw [HD.o]
     show Ents _ _ _ (P.putF (o,t) false l)
     refine b5y (w.heap.size+2) HI2.o fun b hb=>?_;have h1:=hb.1;have h2:=hb.2;have h3:=HZ2.o;simp;omega
    ·exact HB7.o.setCell (by simp;omega) _
def a0n (b:Nat) (x:Value) (t:Str) (v:World):Prop:=v.cell? ⟨b,0,none⟩=some x∧v.cell? ⟨b,1,none⟩=some (.string (S t))∧b<v.heap.size
theorem a0n.a0e {b:Nat} {x:Value} {t:Str} {v v':World} {X:Blk} (h:a0n b x t v) (hc:Chg X v v') (hX:¬X b):a0n b x t v':=
 ⟨(hc.cell (p:=⟨b,0,none⟩) h.2.2 hX).trans h.1,(hc.cell (p:=⟨b,1,none⟩) h.2.2 hX).trans h.2.1,Nat.lt_of_lt_of_le h.2.2 hc.size⟩
theorem a0n.below {b:Nat} {x:Value} {t:Str} {v v':World} (h:a0n b x t v) (hb:Below v.heap.size v v'):a0n b x t v':=h.a0e (Below.chg hb fun _=>False) fun h=>h
theorem a0n.new (x:Value) (t:Str) (T:TypeId) (v:World):a0n v.heap.size x t (v.alloc (.cells #[x,.string (S t)] T)):=⟨by go_simp,by go_simp,by simp⟩
namespace P
end P
set_option maxHeartbeats 2000000
theorem a0z {P Q:Prop} (h:P→Q) (p:P):Q:=h p
theorem RowO.to {α:Type} {E:ElT α} {wd:Nat} (hE:ElOk E) {v v':World} {lo hi lo' hi':Nat} {x u:Value} {l:List α} (h:RowO wd E v (BetO lo hi x) u l) (hb:Below v.heap.size v v') (h1:lo'≤lo) (h2:hi≤hi') (h3:hi'≤v'.heap.size):RowO wd E v' (BetO lo' hi' x) u l:=
 (h.below hE hb).wide (fun _ hb=>⟨⟨Nat.le_trans h1 hb.1.1,Nat.lt_of_lt_of_le hb.1.2 h2⟩,hb.2⟩) (fun _ hb=>Nat.lt_of_lt_of_le hb.1.2 h3)
theorem a0n.set2 {b:Nat} {x y:Value} {t r:Str} {v:World} (h0:v.cell? ⟨b,0,none⟩=some x) (h1:v.cell? ⟨b,1,none⟩=some (.string (S t))) (hz:b<v.heap.size):a0n b y r ((v.setCell ⟨b,0,none⟩ y).setCell ⟨b,1,none⟩ (.string (S r))):=by
 refine⟨?_,?_,by simpa [World.setCell] using hz⟩
 ·go_simp
 ·go_simp
theorem EBx.new (v:World):EBx v.heap.size (v.alloc (.cells #[.int .i64 0,.string (S [])] 55)):=⟨by simp,by go_simp,by go_simp,by go_simp,by go_simp⟩
theorem TBx.a0e {b:Nat} {u:Value} {t:Str} {v v':World} {X:Blk} (h:TBx b u t v) (hc:Chg X v v') (hX:¬X b):TBx b u t v':=by
 exact zq102
theorem EBx.a0e {b:Nat} {v v':World} {X:Blk} (h:EBx b v) (hc:Chg X v v') (hX:¬X b):EBx b v':=by
 exact zq102
namespace P
theorem a1h {d:Dic} {t:Tr} (h:trans d t=true):t.1.length≤60∧t.2.length≤2000:=by
 obtain⟨h1,_,_⟩:=a2o h;refine⟨?_,a3s (a2b h)⟩
 have h2:a2z t.1=true:=by
  unfold scr at h1
  cases hq:a2z t.1
  ·rw [hq]at h1;simp at h1
  ·rfl
 exact a4q h2
end P
set_option maxHeartbeats 4000000
end Go.Proofs.YtggfdnopminemaaGreatDoor
