/- Walks: a translator pressed (program). -/
import Derived.Test.YtggfdnopminemaaGreatDoorZt
import Derived.Test.YtggfdnopminemaaGreatDoorScrI3
set_option linter.all false
namespace Go.Proofs.YtggfdnopminemaaGreatDoor
namespace P
theorem d1e (l:List Int) (k:Int):(next l k).length≤l.length+1:=by
 unfold next
 split
 ·rw [List.length_take];omega
 ·rw [List.length_append];simp
end P
open Go Go.RowKit
set_option maxHeartbeats 8000000
set_option maxRecDepth 100000
theorem a1i {B:Nat} {v:World} {u:Value} {l:List Int} (h:OwnK B v u l) (hl:l.length≤2^45):IntR v u l:=by
 have h':=h
 rcases h.2 with⟨rfl,h0⟩|⟨g,cap,cur,rfl,h1,h2,h3,h4,h5⟩
 ·have:l=[]:=by cases l with
   |nil=>rfl
   |cons=>simp at h0
  subst this;exact⟨none,0,rfl,⟨by simp,by simp⟩,fun _=>rfl,.inl rfl⟩
 ·refine⟨some ⟨g,0,none⟩,cap,rfl,⟨hl,h3⟩,(fun h=>by cases h),.inr ⟨g,0,rfl,?_,fun j hj=>?_⟩⟩
  ·exact (World.ownsRow.lt h' g rfl).2
  ·rw [Nat.zero_add,World.ownsRow.cellAt h' j oZ];unfold ints;rw [List.getElem?_map,List.getElem?_eq_getElem hj];rfl
theorem IntR.cap {v:World} {a:Option Addr} {n c:Nat} {l:List Int} (h:IntR v (.slice a n c) l):l.length≤c:=by
 obtain⟨ad,cap,h1,h2,_⟩:=h;injection h1 with _ _ h3;subst h3;exact h2.2
theorem b2s {B:Nat} {v:World} {a:Option Addr} {c m:Nat} {l:List Int} (h:OwnK B v (.slice a l.length c) l) (hl:l≠[]) (hm:m≤l.length):OwnK B v (.slice a m c) (l.take m):=by
 have hml:(l.take m).length=m:=by rw [List.length_take];omega
 rcases h.2 with⟨h1,h0⟩|⟨g,cap,cur,h0,h1,h2,h3,h4,h5,h6⟩
 ·exact absurd (List.eq_nil_of_length_eq_zero h0) hl
 ·injection h0 with h7 _ h8;subst h7 h8;refine⟨by simp [ints],.inr ⟨g,c,cur,by rw [hml],h1,h2,by omega,h4,h5,?_⟩⟩;rw [hml];have h9:(cur.toList.take (l.length*1)).take m=(ints l).take m:=by rw [h6]
  rw [List.take_take,Nat.min_eq_left oZ]at h9;rw [Nat.mul_one,h9];unfold ints;rw [List.map_take]
def EBx (b:Nat) (v:World):Prop:=b<v.heap.size∧v.cell? ⟨b,0,none⟩=some (.int .i64 0)∧v.cell? ⟨b,1,none⟩=some (.string (S []))∧v.frozen? ⟨b,0,none⟩=false∧v.frozen? ⟨b,1,none⟩=false
theorem EBx.below {b:Nat} {v v':World} (h:EBx b v) (hb:Below v.heap.size v v'):EBx b v':=by
 exact zq37
def PrBx (b:Nat) (sv:Value) (t:Str) (dv:Value) (v:World):Prop:=(b<v.heap.size∧v.cell? ⟨b,0,none⟩=some dv)∧TBx (b+1) sv t v∧TBx (b+1+1) (.slice none 0 0) [] v∧EBx (b+1+1+1) v
theorem PrBx.below {b:Nat} {sv dv:Value} {t:Str} {v v':World} (h:PrBx b sv t dv v) (hb:Below v.heap.size v v'):PrBx b sv t dv v':=
 ⟨⟨Nat.lt_of_lt_of_le h.1.1 hb.size,(hb.cell (p:=⟨b,0,none⟩) h.1.1).trans h.1.2⟩,h.2.1.below hb,h.2.2.1.below hb,h.2.2.2.below hb⟩
def a2j (e:P.Edit):Value:=.agg #[.int .i64 e.1,.string (S e.2)]
def b7y (r:(P.Tr×P.Edit)×Bool) (w:World) (e:Ending) (w':World):Prop:=
 ∃u,e=.returned (.tuple #[a1v u r.1.1.2,a2j r.1.2,.bool r.2])∧OwnK w.heap.size w' u r.1.1.1∧Below w.heap.size w w'
theorem a3o (dv sv:Value) (l:P.Dic) (st:List Int) (t:Str) (k:Int) (w:World) (hu:EntR w dv l) (hs:IntR w sv st) (hm:Small l) (hE:Env w) (hst:st.length≤2^20) (ht:t.length≤2^30) :
 Calls Tryz.prog 268 #[.agg #[dv],a1v sv t,.int .i64 k] w (b7y (P.b4x l (st,t) k) w):=by
 obtain⟨i0,hi,hz0,hz1,hz2⟩:=info_parts a1z
 obtain⟨W0,hW0⟩:∃v,((((w.alloc (.cells #[dv] 26)).alloc (.cells #[sv,.string (S t)] 35)).alloc (.cells #[.slice none 0 0,.string (S [])] 35)).alloc (.cells #[.int .i64 0,.string (S [])] 55))=v:=⟨_,rfl⟩
 have hb0:Below w.heap.size w W0:=by rw [←hW0];exact ((((Below.refl w.heap.size w).alloc lZ _).alloc sZ _).alloc (by simp;omega) _).alloc (by simp;omega) _
 have hz0':W0.heap.size=w.heap.size+4:=by rw [←hW0];simp
 have hx0:PrBx w.heap.size sv t dv W0:=by
  exact zq39
 have HU:=qh (hu.below hb0);have HST:=qh (hs.below hb0);have HB0:=qh hb0;have HE:=qh (hE.below hb0 hE.size)
 have HX:=qh hx0;have HZ0:=qh hz0'
 clear hb0 hz0'
 obtain⟨ad,cap,rfl,_,_⟩:=hu
 obtain⟨sd,sc,rfl,_,_⟩:=hs
 unfold a1v
 go_enter Tryz.func268,Tryz.ntmps268
 go_upto_region 1 with (fail)
 try rw [hW0]
 clear hW0
 obtain⟨k0,⟨k1,k2,k3,_⟩,_,_⟩:=hx0
 go_wp2_with fail
 refine (a7n _ st _ HST.o oZ).mono ?_
 rintro e w1 ⟨u,rfl,ho,hb⟩
 have HB1:=qh hb;have HX1:=qh (HX.o.below hb);have HOW:=qh ho
 obtain⟨ua,uc,rfl⟩:=a0j ho
 have hz1':=hb.size
 clear k0 k1 k2 k3 ho hb
 have HOW2:=qh (HOW.o.alloc (.cells #[.int .i64 k] 3))
 go_wp2_with (at_builtin;refine wpList_append_own _ rfl _ _ 33 rfl W0.heap.size 3 i0 (.int .i64 0) 1 8 Tryz.underlying33 hi hz0 hz1 hz2 rfl dZ (.slice ua st.length uc) st.length (ints st) rfl HOW2.o ⟨w1.heap.size,0,none⟩ 1 1 [.int .i64 k] rfl rfl ?_ ?_ ?_ ?_ ?_ ?_)
 all_goals first|exact⟨rfl,rfl⟩|(intro z hz;simp only [List.mem_cons,List.not_mem_nil,or_false]at hz;subst hz;rfl)|(unfold maxLen;omega)|omega|(simp;omega)|(intro i z hz;rcases i with _|i;(injection hz with hz;subst hz;rw [add0];go_simp);cases hz)|skip
 intro u4 w4 hown hgr _
 have R:=qh (c0h HOW.o HB1.o 3 hown hgr)
 have HX4:=qh (HX.o.below R.o.2)
 have hz4:=R.o.2.size
 clear hown hgr
 obtain⟨va,vc,rfl⟩:=a0j R.o.1
 have HE4:=qh (HE.o.below R.o.2 HE.o.size)
 have HU4:=qh (HU.o.below R.o.2)
 go_upto_if 19 with fail
 go_cut [9] (fun u wx=>(∃a c,u=.slice a (P.next st k).length c)∧OwnK W0.heap.size w4 u (P.next st k)∧w4=wx)
 case first=>
  by_cases hk:k=1024
  ·subst hk;have HN:=qh (show P.next st 1024=(st++[1024]).take (st.length-1) by unfold P.next;rw [if_pos rfl,List.take_append_of_le_length oZ]);have HL:=qh (show (P.next st 1024).length=st.length-1 by rw [HN.o,List.length_take,List.length_append];omega);have i1:((1024:Int)==1024)=true:=rfl;obtain⟨m,hm⟩:∃m,st.length-1=m:=⟨_,rfl⟩;rw [hm]at HN HL;have i2:max (0:Int) ((st.length:Int)+1-2)=(m:Int):=by omega
   have hvc:=(a1i R.o.1 (by rw [List.length_append];simp;omega)).cap;rw [List.length_append]at hvc;simp only [List.length_cons,List.length_nil]at hvc;have i3:m≤vc:=by omega
   have i4:(m:Int)≤(vc:Int):=by omega
   have HR:=qh (show OwnK W0.heap.size w4 (.slice va m vc) (P.next st 1024) by rw [HN.o];exact b2s R.o.1 sZ (by rw [List.length_append];omega));go_wp2;go_meet;exact⟨⟨va,vc,by rw [HL.o]⟩,HR.o,rfl⟩
  ·have i1:(k==1024)=false:=by simpa using hk
   have HN:=qh (show st++[k]=P.next st k by unfold P.next;rw [if_neg hk]);have HR:=qh (show OwnK W0.heap.size w4 (.slice va (st++[k]).length vc) (P.next st k) by rw [←HN.o];exact R.o.1);rw [HN.o]at HR⊢;go_wp2;go_meet;exact⟨⟨_,_,rfl⟩,HR.o,rfl⟩
 case rest=>
  obtain⟨⟨a,c,rfl⟩,ho,rfl⟩:=hcut;have HN:=qh (show P.b4x l (st,t) k=if (P.scr l (P.next st k)).2 then (((P.next st k,(P.scr l (P.next st k)).1),P.least t (P.scr l (P.next st k)).1),true) else ((P.tr0,(0,[])),false) from rfl);have hnl:=P.d1e st k;have hsl:=P.c7f l (P.next st k);generalize P.next st k=nx at *;have HI:=qh (a1i ho oZ);have HO4:=qh ho;obtain⟨⟨_,k0⟩,_,_,_⟩:=HX4.o;clear ho HOW HOW2 HB1 HX1 HST hz1'
  go_wp2_with fail
  refine (a3c _ _ l nx _ HU4.o HI.o hm HE4.o).mono ?_;rintro e w5 ⟨rfl,hb5⟩;generalize P.scr l nx=r at *;obtain⟨r1,r2⟩:=r;simp only at hsl;have HX5:=qh (HX4.o.below hb5);have HB5:=qh (R.o.2.trans (hb5.mono hz4));have HO5:=qh (a0k HO4.o hb5 lZ);have hz5:=hb5.size;clear hb5 k0
  cases r2
  ·obtain⟨_,⟨_,k1,k2,_⟩,⟨_,k3,k4,k7,k8⟩,⟨_,k5,k6,k9,k10⟩⟩:=HX5.o;go_wp2;refine bodyPost_ret (v:=.tuple #[a1v (.slice none 0 0) [],a2j (0,[]),.bool false]) (by simp [a1v,a2j,k3,k4,k5,k6,results,Tryz.results268,go_sem]) rfl ⟨.slice none 0 0,by rw [HN.o];rfl,by rw [HN.o];exact World.ownsRow_nil _ _ _ _,?_⟩;exact (((((HB0.o.trans (HB5.o.mono HB0.o.size)).setCell (by simp<;>omega) _).setCell (by simp<;>omega) _).setCell (by simp<;>omega) _).setCell (by simp<;>omega) _)
  ·obtain⟨_,⟨_,k1,k2,_⟩,_,_⟩:=HX5.o
   go_wp2_with fail
   refine (a6x t r1 _ ht oZ).mono ?_;rintro e w6 ⟨rfl,hb6⟩;have HX6:=qh (HX5.o.below hb6);have HB6:=qh (HB5.o.trans (hb6.mono (Nat.le_trans hz4 hz5)));have HO6:=qh (a0k HO5.o hb6 lZ);clear hb6 k1 k2;obtain⟨_,_,⟨_,k3,k4,k7,k8⟩,⟨_,k5,k6,k9,k10⟩⟩:=HX6.o;have hzz:=HZ0.o;go_wp2;refine bodyPost_ret (v:=.tuple #[a1v (.slice a nx.length c) r1,a2j (P.least t r1),.bool true]) (by simp [a1v,a2j,k3,k4,k5,k6,results,Tryz.results268,go_sem]) rfl ⟨.slice a nx.length c,by rw [HN.o];rfl,?_,?_⟩
   ·rw [HN.o];exact a1n (ownsRow_setCell_below (ownsRow_setCell_below (ownsRow_setCell_below (ownsRow_setCell_below HO6.o (by simp<;>omega) _) (by simp<;>omega) _) (by simp<;>omega) _) (by simp<;>omega) _) oZ
   ·exact (((((HB0.o.trans (HB6.o.mono HB0.o.size)).setCell (by simp<;>omega) _).setCell (by simp<;>omega) _).setCell (by simp<;>omega) _).setCell (by simp<;>omega) _)
theorem a5h (dv sv:Value) (l:P.Dic) (st:List Int) (t:Str) (k:Int) (w:World) (hu:EntR w dv l) (hs:IntR w sv st) (hm:Small l) (hE:Env w) (hst:st.length≤2^20) (ht:t.length≤2^30) :
 Calls Tryz.prog 207 #[.agg #[dv],a1v sv t,.int .i64 k] w (b7y (P.a3o l (st,t) k) w):=by
 obtain⟨W0,hW0⟩:∃v,((((w.alloc (.cells #[dv] 26)).alloc (.cells #[sv,.string (S t)] 35)).alloc (.cells #[.slice none 0 0,.string (S [])] 35)).alloc (.cells #[.int .i64 0,.string (S [])] 55))=v:=⟨_,rfl⟩
 have hb0:Below w.heap.size w W0:=by rw [←hW0];exact ((((Below.refl w.heap.size w).alloc lZ _).alloc sZ _).alloc (by simp;omega) _).alloc (by simp;omega) _
 have hz0':W0.heap.size=w.heap.size+4:=by rw [←hW0];simp
 have hx0:PrBx w.heap.size sv t dv W0:=by
  exact zq39
 have HU:=qh (hu.below hb0);have HST:=qh (hs.below hb0);have HB0:=qh hb0;have HE:=qh (hE.below hb0 hE.size)
 have HX:=qh hx0;have HZ0:=qh hz0'
 clear hb0 hz0'
 obtain⟨ad,cap,rfl,_,_⟩:=hu
 obtain⟨sd,sc,rfl,_,_⟩:=hs
 unfold a1v
 go_enter Tryz.func207,Tryz.ntmps207
 go_upto_region 1 with (fail)
 try rw [hW0]
 clear hW0
 obtain⟨⟨_,k0⟩,⟨k1,k2,k3,_⟩,_,_⟩:=hx0
 go_wp2_with fail
 refine (a1x _ _ l st t _ HU.o HST.o hm HE.o).mono ?_
 rintro e w1 ⟨rfl,hb⟩
 have HB1:=qh hb;have HX1:=qh (HX.o.below hb);have HST1:=qh (HST.o.below hb);have HU1:=qh (HU.o.below hb);have HE1:=qh (HE.o.below hb HE.o.size)
 clear hb k0 k1 k2 k3
 obtain⟨⟨_,k0⟩,⟨_,k1,k2,_,_⟩,⟨_,k3,k4,k7,k8⟩,⟨_,k5,k6,k9,k10⟩⟩:=HX1.o
 have HP:=qh (show P.a3o l (st,t) k=if P.trans l (st,t)&&P.a0m k then P.b4x l (st,t) k else ((P.tr0,(0,[])),false) from rfl)
 generalize P.trans l (st,t)=q at *
 cases q
 ·exact zq22
 ·go_wp2_with fail
  refine (a3z _ _).mono ?_;rintro e w2 ⟨rfl,rfl⟩;generalize P.a0m k=q at *
  cases q
  ·exact zq22
  ·go_wp2_with fail
   refine (a3o _ _ l st t k _ HU1.o HST1.o hm HE1.o hst ht).mono ?_;rintro e w3 ⟨u,rfl,ho,hb⟩;rw [Bool.and_self,if_pos rfl]at HP;have HX3:=qh (HX1.o.below hb);have HO:=qh ho;have HB3:=qh (HB0.o.trans ((HB1.o.trans (hb.mono HB1.o.size)).mono HB0.o.size));have hzz:w.heap.size+4≤w1.heap.size:=by have h1:=HB1.o.size;have h2:=HZ0.o;omega
   generalize P.b4x l (st,t) k=r at *;obtain⟨⟨⟨nx,r1⟩,ed⟩,ok⟩:=r;simp only at ho HO⊢;obtain⟨va,vc,rfl⟩:=a0j ho;clear ho hb k0 k1 k2 k3 k4 k5 k6 k7 k8 k9 k10;obtain⟨_,_,⟨_,k3,k4,k7,k8⟩,⟨_,k5,k6,k9,k10⟩⟩:=HX3.o;unfold a1v a2j;go_wp2;refine bodyPost_ret (v:=.tuple #[a1v (.slice va nx.length vc) r1,a2j ed,.bool ok]) (by simp [a1v,a2j,k3,k4,k5,k6,results,Tryz.results207,go_sem]) rfl ⟨.slice va nx.length vc,by rw [HP.o],?_,?_⟩
   ·rw [HP.o];exact a1n (ownsRow_setCell_below (ownsRow_setCell_below (ownsRow_setCell_below (ownsRow_setCell_below HO.o (by simp<;>omega) _) (by simp<;>omega) _) (by simp<;>omega) _) (by simp<;>omega) _) oZ
   ·exact ((((HB3.o.setCell (by simp<;>omega) _).setCell (by simp<;>omega) _).setCell (by simp<;>omega) _).setCell (by simp<;>omega) _)
def BetO (lo hi:Nat) (u:Value):Blk:=fun b=>(lo≤b∧b<hi)∧u.ownBlock=some b
theorem a7e {B:Nat} {v:World} {u:Value} {l:List Int} (h:OwnK B v u l) (hl:l.length≤2^30):Ints v (BetO B v.heap.size u) u l:=by
 rcases id h.2 with⟨rfl,h0⟩|⟨g,cap,cur,hv,hg,hh,hnc,_⟩
 ·rw [List.eq_nil_of_length_eq_zero h0];exact RowO.nil _ _
 ·have hob:u.ownBlock=some g:=by rw [hv];rfl
  have hlt:=(World.ownsRow.lt h g hob).2;have hBl:BetO B v.heap.size u g:=⟨⟨hg,hlt⟩,hob⟩;subst hv;refine b1u (fun j hj=>?_) hBl (fun b hb=>hb.1.2) hl hnc;exact zq50
def a0w (b:Nat) (x:Value) (t:Str) (v:World):Prop:=v.cell? ⟨b,0,none⟩=some x∧v.cell? ⟨b,1,none⟩=some (.string (S t))∧b<v.heap.size
theorem a0w.a0c {b:Nat} {x:Value} {t:Str} {v v':World} {X:Blk} (h:a0w b x t v) (hc:Chg X v v') (hX:¬X b):a0w b x t v':=
 ⟨(hc.cell (p:=⟨b,0,none⟩) h.2.2 hX).trans h.1,(hc.cell (p:=⟨b,1,none⟩) h.2.2 hX).trans h.2.1,Nat.lt_of_lt_of_le h.2.2 hc.size⟩
theorem a0w.below {b:Nat} {x:Value} {t:Str} {v v':World} (h:a0w b x t v) (hb:Below v.heap.size v v'):a0w b x t v':=h.a0c (Below.chg hb fun _=>False) fun h=>h
theorem a0w.new (x:Value) (t:Str) (T:TypeId) (v:World):a0w v.heap.size x t (v.alloc (.cells #[x,.string (S t)] T)):=⟨by go_simp,by go_simp,by simp⟩
namespace P
end P
theorem a2v {P Q:Prop} (h:P→Q) (p:P):Q:=h p
theorem RowO.to {α:Type} {E:ElT α} {wd:Nat} (hE:ElOk E) {v v':World} {lo hi lo' hi':Nat} {x u:Value} {l:List α} (h:RowO wd E v (BetO lo hi x) u l) (hb:Below v.heap.size v v') (h1:lo'≤lo) (h2:hi≤hi') (h3:hi'≤v'.heap.size):RowO wd E v' (BetO lo' hi' x) u l:=
 (h.below hE hb).wide (fun _ hb=>⟨⟨Nat.le_trans h1 hb.1.1,Nat.lt_of_lt_of_le hb.1.2 h2⟩,hb.2⟩) (fun _ hb=>Nat.lt_of_lt_of_le hb.1.2 h3)
theorem a0w.set2 {b:Nat} {x y:Value} {t r:Str} {v:World} (h0:v.cell? ⟨b,0,none⟩=some x) (h1:v.cell? ⟨b,1,none⟩=some (.string (S t))) (hz:b<v.heap.size):a0w b y r ((v.setCell ⟨b,0,none⟩ y).setCell ⟨b,1,none⟩ (.string (S r))):=by
 refine⟨?_,?_,by simpa [World.setCell] using hz⟩
 ·go_simp
 ·go_simp
theorem EBx.new (v:World):EBx v.heap.size (v.alloc (.cells #[.int .i64 0,.string (S [])] 55)):=⟨by simp,by go_simp,by go_simp,by go_simp,by go_simp⟩
theorem TBx.a0c {b:Nat} {u:Value} {t:Str} {v v':World} {X:Blk} (h:TBx b u t v) (hc:Chg X v v') (hX:¬X b):TBx b u t v':=by
 exact zq36
theorem EBx.a0c {b:Nat} {v v':World} {X:Blk} (h:EBx b v) (hc:Chg X v v') (hX:¬X b):EBx b v':=by
 exact zq36
end Go.Proofs.YtggfdnopminemaaGreatDoor
namespace Go.Proofs.YtggfdnopminemaaGreatDoor.P
theorem d4w {d:Dic} (h:dic d=true):scr d []=([],true):=by
 unfold scr;rw [h];rfl
end Go.Proofs.YtggfdnopminemaaGreatDoor.P
namespace Go.Proofs.YtggfdnopminemaaGreatDoor
namespace P
theorem a4h {d:Dic} {t:Tr} (h:trans d t=true):t.1.length≤60∧t.2.length≤2000:=by
 obtain⟨h1,_,_⟩:=a2u h;refine⟨?_,a2m (a2c h)⟩
 have h2:a1t t.1=true:=by
  unfold scr at h1
  cases hq:a1t t.1
  ·rw [hq]at h1;simp at h1
  ·rfl
 exact a4f h2
end P
open Go Go.RowKit
set_option maxHeartbeats 8000000
set_option maxRecDepth 100000
end Go.Proofs.YtggfdnopminemaaGreatDoor
