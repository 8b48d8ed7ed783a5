/- Walks: a session copied (reference). -/
import Derived.Test.YtggfdnopminemaaGreatDoorZt
import Derived.Test.YtggfdnopminemaaGreatDoorSesB1
namespace Go.Proofs.YtggfdnopminemaaGreatDoor
open Go Go.RowKit
set_option maxHeartbeats 8000000
set_option maxRecDepth 100000
theorem d6w (u us:Value) (l:P.Dic) (st:List Int) (sc d p:Str) (n:Int) (w:World) (hu:EntR w u l) (hus:IntR w us st) (hm:Small l) (hst:st.length≤2^30) :
 Calls Tryz.prog 92 #[a1e u us sc d p n] w (c4t l st sc d p n w):=by
 have hu0:=hu;have hus0:=hus
 obtain⟨ad,cap,rfl,_,_⟩:=hu0
 obtain⟨sd,sap,rfl,_,_⟩:=hus0
 obtain⟨W0,hW0⟩:∃v,(w.alloc (a0d (.slice ad l.length cap) (.slice sd st.length sap) sc d p n)).alloc (a0d (.slice none 0 0) (.slice none 0 0) [] [] [] 0)=v:=⟨_,rfl⟩
 have hb0:Below w.heap.size w W0:=by rw [←hW0];exact ((Below.refl w.heap.size w).alloc lZ _).alloc sZ _
 have hz0:W0.heap.size=w.heap.size+2:=by rw [←hW0];simp
 have hsx:SOut w.heap.size (.slice ad l.length cap) (.slice sd st.length sap) sc d p n W0:=by
  exact zq24
 have hsr:SOut (w.heap.size+1) (.slice none 0 0) (.slice none 0 0) [] [] [] 0 W0:=by
  exact zq21
 have HU:=qh hu;have HUS:=qh hus
 have HX:=qh hsx;have HR:=qh hsr;have HB:=qh hb0
 clear hsx hsr hb0 hu hus
 go_enter Tryz.func92,Tryz.ntmps92
 go_upto_region 1 with fail
 try rw [hW0]
 clear hW0
 have HXD:=qh (HX.o.below bZ.drew);have HRD:=qh (HR.o.below bZ.drew);have HBD:=qh (HB.o.trans (bZ.drew.mono HB.o.size))
 have hz1:w.heap.size+2≤W0.drew.heap.size:=by show w.heap.size+2≤W0.heap.size;omega
 clear hz0
 refine wp_region_held_drew (S:=SOut w.heap.size (.slice ad l.length cap) (.slice sd st.length sap) sc d p n) kZ HXD.o (fun hS0=>?_)
 generalize W0.drew=y0 at *
 refine tk2 0 hS0 ?_
 refine tk2 1 hS0 ?_
 refine tk2 3 hS0 ?_
 refine tk2 4 hS0 ?_
 refine tk2 5 hS0 ?_
 refine tk2 7 hS0 ?_
 refine tk2 8 hS0 ?_
 refine tk2 9 hS0 ?_
 refine tk2 11 hS0 ?_
 refine tk2 12 hS0 ?_
 refine trd 2 fun K hK=>?_
 go_simp
 refine (l6Own _ l _ (HU.o.below HBD.o) hm.len hm.outs).mono ?_
 rintro e y1 ⟨nu,rfl,hd,hb⟩
 have HR1:=qh (HRD.o.below hb);have HB1:=bt HBD hb;have HD1:=qh hd
 have hz2:w.heap.size+2≤y1.heap.size:=Nat.le_trans hz1 hb.size
 have hz3:=hb.size
 refine hK.out _ _ (hS0.below hb) (fun hS1=>?_)
 clear hK K hb hS0
 obtain⟨na,nc,rfl,-,-⟩:=hd
 try simp only [qA,qB,qC,Act.put,qD,qE,qF]
 refine trd 6 fun K hK=>?_
 go_simp
 refine (d2k _ st _ (HUS.o.below HB1.o) hst).mono ?_
 rintro e y2 ⟨mu,rfl,hi,hb⟩
 have HR2:=qh (HR1.o.below hb);have HB2:=bt HB1 hb;have HD2:=qh (HD1.o.below a0b hb);have HI2:=qh hi
 have hz4:=hb.size
 refine hK.out _ _ (hS1.below hb) (fun hS2=>?_)
 clear hK K hb hS1
 obtain⟨ma,mc,rfl,-,-⟩:=hi
 try simp only [qA,qB,qC,Act.put,qD,qE,qF]
 refine tk2 10 hS2 ?_
 refine tk2 13 hS2 ?_
 obtain⟨⟨r0,r1,r2,r3,r4,r5,r6⟩,f0,f1,f2,f3,f4,f5⟩:=HR2.o
 obtain⟨V,hV⟩:∃v,((((((y2.setCell ⟨w.heap.size+1,0,none⟩ (.slice na l.length nc)).setCell ⟨w.heap.size+1,1,none⟩ (.slice ma st.length mc)).setCell ⟨w.heap.size+1,2,none⟩ (.string (S sc))).setCell ⟨w.heap.size+1,3,none⟩ (.string (S d))).setCell ⟨w.heap.size+1,4,none⟩ (.string (S p))).setCell ⟨w.heap.size+1,5,none⟩ (.int .i64 n))=v:=⟨_,rfl⟩
 have hset:Chg (fun b=>b=w.heap.size+1) y2 V:=by rw [←hV];exact (((((((Chg.refl (fun b=>b=w.heap.size+1) y2).setCell (p:=⟨w.heap.size+1,0,none⟩) rfl _).setCell (p:=⟨w.heap.size+1,1,none⟩) rfl _).setCell (p:=⟨w.heap.size+1,2,none⟩) rfl _).setCell (p:=⟨w.heap.size+1,3,none⟩) rfl _).setCell (p:=⟨w.heap.size+1,4,none⟩) rfl _).setCell (p:=⟨w.heap.size+1,5,none⟩) rfl _)
 have HRV:=qh (show SOut (w.heap.size+1) (.slice na l.length nc) (.slice ma st.length mc) sc d p n V from by rw [←hV];exact ((HR2.o.set0 (x:=.slice na l.length nc)).set1 (x:=.slice ma st.length mc) (r:=sc)).set3 (d':=d) (p':=p) (n':=n))
 have HBV:=qh (Chg.a0k HB2.o hset HB2.o.size (fun b h=>by have h9:b=w.heap.size+1:=h;omega))
 have HD3:=qh (HD2.o.a0e a0b hset (fun b hb h=>by have h9:b=w.heap.size+1:=h;have h8:=hb.1;omega));have HI3:=qh (HI2.o.a0e a0g hset (fun b hb h=>by have h9:b=w.heap.size+1:=h;have h8:=hb.1;omega))
 have hz5:=hset.size
 refine trd 14 fun K hK=>?_
 go_simp
 refine hK.out _ _ (by (try rw [hV]);exact hS2.a0e hset (fun h=>by have h9:w.heap.size=w.heap.size+1:=h;omega)) (fun hS3=>?_)
 clear hK K
 try rw [hV]at hS3⊢
 clear r0 r1 r2 r3 r4 r5 r6 f0 f1 f2 f3 f4 f5
 try simp only [qA,qB,qC,Act.put,qD,qE,qF]
 refine wpAnyH_done kZ ?_ _
 go_wp2
 try rw [hV]
 clear hset hV
 obtain⟨q0,q1,q2,q3,q4,q5,q6⟩:=HRV.o.1
 refine bodyPost_ret (v:=a1e (.slice na l.length nc) (.slice ma st.length mc) sc d p n) (by simp [results,Tryz.results92,go_sem,q0,q1,q2,q3,q4,q5]) rfl ⟨_,_,y1.heap.size,rfl,HD3.o.wide (fun b hb=>⟨by have h1:=hb.1;omega,hb.2⟩) (fun b hb=>by have h1:=hb.2;omega),HI3.o.wide (fun b hb=>⟨hb.1,by have h1:=hb.2;omega⟩) (fun b hb=>hb.2),by omega,by omega,HBV.o⟩
def SQ (W:Nat) (u us:Value) (sc d p:Str) (n:Int) (v:World):Prop:=SOut W u us sc d p n v∧SOut (W+1) (.slice none 0 0) (.slice none 0 0) [] [] [] 0 v
theorem SQ.below {W:Nat} {u us:Value} {sc d p:Str} {n:Int} {v v':World} (h:SQ W u us sc d p n v) (hb:Below v.heap.size v v'):SQ W u us sc d p n v':=⟨h.1.below hb,h.2.below hb⟩
theorem SQ.grown {W:Nat} {u us x:Value} {sc d p:Str} {n:Int} {v z:World} {o:Obj} {e:TypeId} {sz m:Nat} {xs:List Value} (h:SQ W u us sc d p n v) (ho:(v.alloc o).ownsRow (W+2) e sz x m xs) (hg:(v.alloc o).grownBy z x.ownBlock):SQ W u us sc d p n z:=by
 have h1:=h.below ((Below.refl v.heap.size v).alloc lZ o);exact⟨h1.1.a0e (a5q hg) (fun k=>by have:=(World.ownsRow.lt ho _ k).1;omega),h1.2.a0e (a5q hg) (fun k=>by have:=(World.ownsRow.lt ho _ k).1;omega)⟩
theorem c7y (u us:Value) (l:P.Dic) (st:List Int) (sc d p:Str) (n:Int) (w:World) (hu:EntR w u l) (hus:IntR w us st) (hm:Small l) (hst:st.length≤2^30) :
 Calls Tryz.prog 67 #[a1e u us sc d p n] w (c4t l st sc d p n w):=by
 obtain⟨i0,hi,hz0,hz1,hz2⟩:=info_parts a3u
 have hu0:=hu;have hus0:=hus
 obtain⟨ad,cap,rfl,_,_⟩:=hu0
 obtain⟨sd,sap,rfl,_,_⟩:=hus0
 obtain⟨W0,hW0⟩:∃v,(w.alloc (a0d (.slice ad l.length cap) (.slice sd st.length sap) sc d p n)).alloc (a0d (.slice none 0 0) (.slice none 0 0) [] [] [] 0)=v:=⟨_,rfl⟩
 have hb0:Below w.heap.size w W0:=by rw [←hW0];exact ((Below.refl w.heap.size w).alloc lZ _).alloc sZ _
 have hzW:W0.heap.size=w.heap.size+2:=by rw [←hW0];simp
 have hsx:SOut w.heap.size (.slice ad l.length cap) (.slice sd st.length sap) sc d p n W0:=by
  exact zq24
 have hsr:SOut (w.heap.size+1) (.slice none 0 0) (.slice none 0 0) [] [] [] 0 W0:=by
  exact zq21
 have HU:=qh hu;have HUS:=qh hus
 have HX:=qh hsx;have HR:=qh hsr;have HB:=qh hb0
 have HQ0:=qh (show SQ w.heap.size (.slice ad l.length cap) (.slice sd st.length sap) sc d p n (W0.alloc (.cells #[] 119)) from SQ.below ⟨hsx,hsr⟩ (bZ.alloc lZ _))
 have HB0:=qh (hb0.alloc hb0.size (.cells #[] 119))
 have HLE:=qh hm.outs
 have hl:=hm.len
 have HA0:=qh (show Acc 119 2 entE (w.heap.size+2) (W0.alloc (.cells #[] 119)) (.slice (some ⟨w.heap.size+2,0,none⟩) 0 0) [] [] from
  Acc.nil (by have h:=World.ownsRow_lit (base:=w.heap.size+2) (e:=119) (size:=2) W0 #[] 0 oZ (Nat.zero_le _) sZ;rw [hzW]at h;simpa using h) (by simp;omega))
 clear hsx hsr hb0 hu hus HX HR HB
 go_enter Tryz.func67,Tryz.ntmps67
 go_upto_region 2 with fail
 try rw [hW0]
 clear hW0
 obtain⟨⟨o0,o1,o2,o3,o4,o5,o6⟩,_⟩:=HQ0.o.1
 go_wp2_with fail
 go_loopw [3,11] (fun s i wr=>∃(j:Nat) (xs:List Value),j≤l.length∧i=.int .i64 j∧SQ w.heap.size (.slice ad l.length cap) (.slice sd st.length sap) sc d p n wr∧Acc 119 2 entE (w.heap.size+2) wr s (l.take j) xs∧Below w.heap.size w wr) (fun _ i _=>l.length-(intOf i).toNat)
 case atStart=>exact⟨0,[],Nat.zero_le _,rfl,HQ0.o,HA0.o,HB0.o⟩
 case round=>
  obtain⟨j,xs,hj,rfl,hq,hacc,hb⟩:=hrel;have HQ:=qh hq;clear HA0 HQ0 HB0 hq;have HBZ:=qh (show w.heap.size+2≤wr.heap.size by obtain⟨_,_,_,_,h,_⟩:=hacc;exact h);have hlt0:(l.take j).length=j:=by rw [List.length_take];omega
  have HA:=qh hacc;have HB:=qh hb;have HL0:=qh hlt0;obtain⟨uad,ucap,hu'⟩:=hacc.form;rw [hlt0]at hu';subst hu';clear hlt0 hacc
  by_cases hlt:j<l.length
  ·obtain⟨g,o,hga,hgs,x,c0,c1,hx⟩:=(HU.o.below hb).at j hlt;have HEN:=qh (a0f l j hlt);have hll:=HLE.o _ (List.getElem_mem hlt);have hba:=(Below.refl wr.heap.size wr).alloc lZ (.cells #[x,.string (S l[j].2)] 119);have HX:=qh (hx.below hba);have HBA:=qh hba;obtain⟨xd,xc,rfl,_,_⟩:=hx;subst hga;generalize l[j]=en at *;obtain⟨eo,et⟩:=en;simp only at hll HX HBA c1;have i1:(j:Int)<(l.length:Int):=by omega
   clear hb hba
   go_wp2_with fail
   refine (copied _ eo et _ HX.o oZ).mono ?_;rintro e v1 ⟨x1,rfl,hI,hb1⟩;have hzz:wr.heap.size+1≤v1.heap.size:=by have:=hb1.size;simp at this;omega
   have HZ1:=qh hzz;have HB1:=qh (show Below wr.heap.size wr v1 from HBA.o.trans (hb1.mono sZ));have HQ1:=qh (HQ.o.below HB1.o);have HI:=qh hI;obtain⟨x1d,x1c,rfl,_,_⟩:=hI;clear hb1;have HA2:=qh ((HA.o.keep a0b HB1.o).keep a0b ((Below.refl v1.heap.size v1).alloc lZ (.cells #[.slice x1d eo.length x1c,.string (S et)] 119)));have HOW:=qh (show (v1.alloc (.cells #[.slice x1d eo.length x1c,.string (S et)] 119)).ownsRow (w.heap.size+2) 119 2 (.slice uad j ucap) j xs by have:=HA2.o.owns;rwa [HL0.o]at this)
   go_wp2_with (at_builtin;refine wpList_append_lies _ rfl _ _ 24 rfl (w.heap.size+2) 119 i0 (.agg #[.slice none 0 0,.string ⟨#[]⟩]) 2 40 Tryz.underlying24 hi hz0 hz1 hz2 rfl dZ (.slice uad j ucap) j xs rfl HOW.o ⟨v1.heap.size,0,none⟩ 1 1 [.slice x1d eo.length x1c,.string (S et)] rfl rfl ?_ ?_ (Nat.zero_lt_one) ?_ ?_ ?_ _ rfl ?_)
   ·exact zq20
   ·intro y hy;exact zq37
   ·unfold maxLen;omega
   ·omega
   ·have h1:=HZ1.o;have h2:=HBZ.o;simp;omega
   intro g1 cap1 v3 hown hgr hat hlt3
   have HB3:=qh (show Below (w.heap.size+2) (v1.alloc (.cells #[.slice x1d eo.length x1c,.string (S et)] 119)) v3 from
    bZ.grown hgr (by have h1:=HZ1.o;have h2:=HBZ.o;simp;omega) (fun k hk=>(World.ownsRow.lt HA2.o.owns k hk).1))
   have HAC:=qh (HA.o.snoc (a:=(eo,et)) (cs:=[.slice x1d eo.length x1c,.string (S et)]) (v1:=v1) (v2:=v1.alloc (.cells #[.slice x1d eo.length x1c,.string (S et)] 119)) (v3:=v3) (g:=g1) (cap:=cap1) (F:=Bet (wr.heap.size+1) v1.heap.size) a0b HB1.o (fun b hb=>⟨by have:=hb.1;omega,hb.2⟩) (b1o (by have:=HI.o;simpa using this)) rfl (bZ.alloc lZ _) (by rw [HL0.o];exact hown) hgr (by simpa using hat));have hb2:Below w.heap.size w v3:=((HB.o.trans (HB1.o.mono (by have:=HBZ.o;omega))).trans ((Below.refl w.heap.size v1).alloc (by have h1:=HZ1.o;have h2:=HBZ.o;omega) _)).trans (HB3.o.mono oZ);have HBW:=qh hb2;have HQ3:=qh (SQ.grown HQ1.o HA2.o.owns hgr);clear hown hgr hat hlt3 hb2 hzz;go_wp2
   go_roundw
   case rel=>exact⟨j+1,_,by omega,by go_num,HQ3.o,by rw [HEN.o];have h:=HAC.o;rw [HL0.o]at h;exact h,HBW.o⟩
   case measure=>simp [intOf];omega
  ·have hjl:j=l.length:=by omega
   subst hjl;have HT:=qh (show l.take l.length=l from List.take_length);have HROW:=qh (show Ents wr (Bet (w.heap.size+2) wr.heap.size) (.slice uad l.length ucap) l from by have h:=HA.o;rw [HT.o]at h;exact h.row oZ);have HXD:=qh (HQ.o.1.below bZ.drew);have HRD:=qh (HQ.o.2.below bZ.drew);have HBD:=qh (HB.o.trans (bZ.drew.mono HB.o.size));have HDD:=qh (HROW.o.below a0b bZ.drew);have hy1:w.heap.size+2≤wr.drew.heap.size:=HBZ.o;have HZD:=qh (show wr.heap.size=wr.drew.heap.size from rfl);clear hb HA
   go_upto_region 7 with fail
   refine wp_region_held_drew (S:=SOut w.heap.size (.slice ad l.length cap) (.slice sd st.length sap) sc d p n) kZ HXD.o (fun hS0=>?_);rw [HZD.o]at HDD;generalize wr.drew=y0 at *;refine tk2 0 hS0 ?_;refine tk2 1 hS0 ?_;refine tk2 2 hS0 ?_;refine tk2 3 hS0 ?_;refine tk2 4 hS0 ?_;refine tk2 6 hS0 ?_;refine tk2 7 hS0 ?_;refine tk2 8 hS0 ?_;refine tk2 10 hS0 ?_;refine tk2 11 hS0 ?_;refine trd 5 fun K hK=>?_;go_simp;refine (a8k _ st _ (HUS.o.below HBD.o) hst).mono ?_;rintro e y2 ⟨mu,rfl,hk,hb⟩;have HR2:=qh (HRD.o.below hb);have HB2:=bt HBD hb;have HD2:=qh (HDD.o.below a0b hb);have HI2:=qh (show Ints y2 (Bet y0.heap.size y2.heap.size) mu st from (a8b (B:=y0.heap.size) hk hst).wide (fun b h=>h.1) (fun b h=>h.2));have hy2:=hb.size;refine hK.out _ _ (hS0.below hb) (fun hS2=>?_);obtain⟨ma,mc,rfl⟩:=a0i hk;clear hK K hb hS0 hk
   try simp only [qA,qB,qC,Act.put,qD,qE,qF]
   refine tk2 9 hS2 ?_;refine tk2 12 hS2 ?_;obtain⟨⟨r0,r1,r2,r3,r4,r5,r6⟩,f0,f1,f2,f3,f4,f5⟩:=HR2.o;obtain⟨V,hV⟩:∃v,((((((y2.setCell ⟨w.heap.size+1,0,none⟩ (.slice uad l.length ucap)).setCell ⟨w.heap.size+1,1,none⟩ (.slice ma st.length mc)).setCell ⟨w.heap.size+1,2,none⟩ (.string (S sc))).setCell ⟨w.heap.size+1,3,none⟩ (.string (S d))).setCell ⟨w.heap.size+1,4,none⟩ (.string (S p))).setCell ⟨w.heap.size+1,5,none⟩ (.int .i64 n))=v:=⟨_,rfl⟩;have hset:Chg (fun b=>b=w.heap.size+1) y2 V:=by rw [←hV];exact (((((((Chg.refl (fun b=>b=w.heap.size+1) y2).setCell (p:=⟨w.heap.size+1,0,none⟩) rfl _).setCell (p:=⟨w.heap.size+1,1,none⟩) rfl _).setCell (p:=⟨w.heap.size+1,2,none⟩) rfl _).setCell (p:=⟨w.heap.size+1,3,none⟩) rfl _).setCell (p:=⟨w.heap.size+1,4,none⟩) rfl _).setCell (p:=⟨w.heap.size+1,5,none⟩) rfl _)
   have HRV:=qh (show SOut (w.heap.size+1) (.slice uad l.length ucap) (.slice ma st.length mc) sc d p n V from by rw [←hV];exact ((HR2.o.set0 (x:=.slice uad l.length ucap)).set1 (x:=.slice ma st.length mc) (r:=sc)).set3 (d':=d) (p':=p) (n':=n));have HBV:=qh (Chg.a0k HB2.o hset HB2.o.size (fun b h=>by have h9:b=w.heap.size+1:=h;omega));have HD3:=qh (HD2.o.a0e a0b hset (fun b hb h=>by have h9:b=w.heap.size+1:=h;have h8:=hb.1;omega));have HI3:=qh (HI2.o.a0e a0g hset (fun b hb h=>by have h9:b=w.heap.size+1:=h;have h8:=hb.1;omega));have hy3:=hset.size;refine trd 13 fun K hK=>?_;go_simp;refine hK.out _ _ (by (try rw [hV]);exact hS2.a0e hset (fun h=>by have h9:w.heap.size=w.heap.size+1:=h;omega)) (fun hS3=>?_);clear hK K
   try rw [hV]at hS3⊢
   clear r0 r1 r2 r3 r4 r5 r6 f0 f1 f2 f3 f4 f5
   try simp only [qA,qB,qC,Act.put,qD,qE,qF]
   refine wpAnyH_done kZ ?_ _;go_wp2
   try rw [hV]
   clear hset hV;obtain⟨q0,q1,q2,q3,q4,q5,q6⟩:=HRV.o.1;refine bodyPost_ret (v:=a1e (.slice uad l.length ucap) (.slice ma st.length mc) sc d p n) (by simp [results,Tryz.results67,go_sem,q0,q1,q2,q3,q4,q5]) rfl ⟨_,_,y0.heap.size,rfl,HD3.o.wide (fun b hb=>⟨by have h1:=hb.1;omega,hb.2⟩) (fun b hb=>by have h1:=hb.2;omega),HI3.o.wide (fun b hb=>⟨hb.1,by have h1:=hb.2;omega⟩) (fun b hb=>hb.2),by omega,by omega,HBV.o⟩
end Go.Proofs.YtggfdnopminemaaGreatDoor
