/- Walks: a session copied. -/
import Derived.Test.YtggfdnopminemaaGreatDoorSesB1
set_option linter.all false
namespace Go.Proofs.YtggfdnopminemaaGreatDoor
open Go.Proofs.Tryz
open Go Go.RowKit
set_option maxHeartbeats 8000000
set_option maxRecDepth 100000
variable {X:Blk} {n:Int} {st:List Int} {B C D K K' m:Nat} {l l0:P.Dic} {g:P.LogT} {s:P.Ses} {d p sc:Str} {u u0 us:Go.Value} {W v v':Go.World}
theorem e1n (u us:Value) (l:P.Dic) (st:List Int) (sc d p:Str) (n:Int) (w:World) (hu:EntR w u l) (hus:IntR w us st) (hm:Small l) (hst:st.length<=2^30) :
 Cz 92 #[a1a u us sc d p n] w (d6j l st sc d p n w):=by
 have hu0:=hu;have hus0:=hus
 obtain⟨ad,cap,rfl,_,_⟩:=hu0
 obtain⟨sd,sap,rfl,_,_⟩:=hus0
 obtain⟨W0,hW0⟩:∃v,(w.alloc (a0d (.slice ad l.length cap) (.slice sd st.length sap) sc d p n)).alloc (a0d (.slice none 0 0) (.slice none 0 0) [] [] [] 0)=v:=⟨_,rfl⟩
 have hb0:Bl w W0:=by rw [<-hW0];exact ((Below.refl w.heap.size w).alloc lZ _).alloc sZ _
 have hz0:W0.heap.size=w.heap.size+2:=by rw [<-hW0];simp
 have hsx:SOut w.heap.size (.slice ad l.length cap) (.slice sd st.length sap) sc d p n W0:=by
  exact zq25
 have hsr:SOut (w.heap.size+1) (.slice none 0 0) (.slice none 0 0) [] [] [] 0 W0:=by
  exact zq20
 refine zm73 ?_;intro HU HUS HX HR HB;clear hsx hsr hb0 hu hus;go_enter func92,ntmps92;go_upto_region 1 with fail;try rw [hW0]
 clear hW0;have HXD:=qh (HX.o.below bZ.drew);have HRD:=qh (HR.o.below bZ.drew);have HBD:=qh (HB.o.trans (bZ.drew.mono HB.o.size));have hz1:w.heap.size+2<=W0.drew.heap.size:=by show w.heap.size+2<=W0.heap.size;omega
 clear hz0;refine zm6 ?_;intro hS0;generalize W0.drew=y0 at *;refine tk2 0 hS0 ?_;refine tk2 1 hS0 ?_;refine tk2 3 hS0 ?_;refine tk2 4 hS0 ?_;refine tk2 5 hS0 ?_;refine tk2 7 hS0 ?_;refine tk2 8 hS0 ?_;refine tk2 9 hS0 ?_;refine tk2 11 hS0 ?_;refine tk2 12 hS0 ?_;refine trd 2 λK hK=>?_;go_simp;refine (d8h _ l _ (HU.o.below HBD.o) hm.len hm.outs).mono ?_;rintro e y1 ⟨nu,rfl,hd,hb⟩;have HR1:=qh (HRD.o.below hb);have HB1:=bt HBD hb;have HD1:=qh hd;have hz2:w.heap.size+2<=y1.heap.size:=Nat.le_trans hz1 hb.size;have hz3:=hb.size;refine zm71 ?_;intro hS1;clear hK K hb hS0;obtain⟨na,nc,rfl,-,-⟩:=hd;refine zm0 ?_;refine trd 6 λK hK=>?_;go_simp;refine (d2n _ st _ (HUS.o.below HB1.o) hst).mono ?_;rintro e y2 ⟨mu,rfl,hi,hb⟩;have HR2:=qh (HR1.o.below hb);have HB2:=bt HB1 hb;have HD2:=qh (HD1.o.below a0f hb);have HI2:=qh hi;have hz4:=hb.size;refine hK.out _ _ (hS1.below hb) (λhS2=>?_);clear hK K hb hS1;obtain⟨ma,mc,rfl,-,-⟩:=hi;refine zm0 ?_;refine tk2 10 hS2 ?_;refine tk2 13 hS2 ?_;obtain⟨⟨r0,r1,r2,r3,r4,r5,r6⟩,f0,f1,f2,f3,f4,f5⟩:=HR2.o;obtain⟨V,hV⟩:∃v,((((((y2.setCell ⟨w.heap.size+1,0,none⟩ (.slice na l.length nc)).setCell ⟨w.heap.size+1,1,none⟩ (.slice ma st.length mc)).setCell ⟨w.heap.size+1,2,none⟩ (.string (S sc))).setCell ⟨w.heap.size+1,3,none⟩ (.string (S d))).setCell ⟨w.heap.size+1,4,none⟩ (.string (S p))).setCell ⟨w.heap.size+1,5,none⟩ (.int .i64 n))=v:=⟨_,rfl⟩;have hset:Chg (λb=>b=w.heap.size+1) y2 V:=by rw [<-hV];exact (((((((Chg.refl (λb=>b=w.heap.size+1) y2).setCell (p:=⟨w.heap.size+1,0,none⟩) rfl _).setCell (p:=⟨w.heap.size+1,1,none⟩) rfl _).setCell (p:=⟨w.heap.size+1,2,none⟩) rfl _).setCell (p:=⟨w.heap.size+1,3,none⟩) rfl _).setCell (p:=⟨w.heap.size+1,4,none⟩) rfl _).setCell (p:=⟨w.heap.size+1,5,none⟩) rfl _)
 have HRV:Hq (SOut (w.heap.size+1) (.slice na l.length nc) (.slice ma st.length mc) sc d p n V):=⟨by rw [<-hV];exact ((HR2.o.set0 (x:=.slice na l.length nc)).set1 (x:=.slice ma st.length mc) (r:=sc)).set3 (d':=d) (p':=p) (n':=n)⟩;refine zm46 ?_;intro HBV HD3 HI3;have hz5:=hset.size;refine trd 14 λK hK=>?_;go_simp;refine hK.out _ _ (by (try rw [hV]);exact hS2.a0b hset (λh=>by have h9:w.heap.size=w.heap.size+1:=h;omega)) (λhS3=>?_);clear hK K;try rw [hV]at hS3⊢
 clear r0 r1 r2 r3 r4 r5 r6 f0 f1 f2 f3 f4 f5;refine zm0 ?_;refine wpAnyH_done kZ ?_ _;go_wp2;refine zn50 ?_;intro q0 q1 q2 q3 q4 q5 q6;clear hset hV;refine bodyPost_ret (v:=a1a (.slice na l.length nc) (.slice ma st.length mc) sc d p n) (by simp [results,results92,go_sem,q0,q1,q2,q3,q4,q5]) rfl ⟨_,_,y1.heap.size,rfl,HD3.o.wide (λb hb=>⟨by have h1:=hb.1;omega,hb.2⟩) (λb hb=>by have h1:=hb.2;omega),HI3.o.wide (λb hb=>⟨hb.1,by have h1:=hb.2;omega⟩) (λb hb=>hb.2),by omega,by omega,HBV.o⟩
def SQ (W:Nat) (u us:Value) (sc d p:Str) (n:Int) (v:World):Prop:=SOut W u us sc d p n v/\SOut (W+1) (.slice none 0 0) (.slice none 0 0) [] [] [] 0 v
theorem SQ.below {W:Nat} (h:SQ W u us sc d p n v) (hb:Bl v v'):SQ W u us sc d p n v':=⟨h.1.below hb,h.2.below hb⟩
theorem SQ.grown {W:Nat} {x:Value} {z:World} {o:Obj} {e:TypeId} {sz:Nat} {xs:List Value} (h:SQ W u us sc d p n v) (ho:(v.alloc o).ownsRow (W+2) e sz x m xs) (hg:(v.alloc o).grownBy z x.ownBlock):SQ W u us sc d p n z:=by
 have h1:=h.below ((Below.refl v.heap.size v).alloc lZ o);exact⟨h1.1.a0b (a6x hg) (λk=>by have:=(World.ownsRow.lt ho _ k).1;omega),h1.2.a0b (a6x hg) (λk=>by have:=(World.ownsRow.lt ho _ k).1;omega)⟩
theorem d0x (u us:Value) (l:P.Dic) (st:List Int) (sc d p:Str) (n:Int) (w:World) (hu:EntR w u l) (hus:IntR w us st) (hm:Small l) (hst:st.length<=2^30) :
 Cz 67 #[a1a u us sc d p n] w (d6j l st sc d p n w):=by
 obtain⟨i0,hi,hz0,hz1,hz2⟩:=info_parts a5i
 have hu0:=hu;have hus0:=hus
 obtain⟨ad,cap,rfl,_,_⟩:=hu0
 obtain⟨sd,sap,rfl,_,_⟩:=hus0
 obtain⟨W0,hW0⟩:∃v,(w.alloc (a0d (.slice ad l.length cap) (.slice sd st.length sap) sc d p n)).alloc (a0d (.slice none 0 0) (.slice none 0 0) [] [] [] 0)=v:=⟨_,rfl⟩
 have hb0:Bl w W0:=by rw [<-hW0];exact ((Below.refl w.heap.size w).alloc lZ _).alloc sZ _
 have hzW:W0.heap.size=w.heap.size+2:=by rw [<-hW0];simp
 have hsx:SOut w.heap.size (.slice ad l.length cap) (.slice sd st.length sap) sc d p n W0:=by
  exact zq25
 have hsr:SOut (w.heap.size+1) (.slice none 0 0) (.slice none 0 0) [] [] [] 0 W0:=by
  exact zq20
 refine zm73 ?_;intro HU HUS HX HR HB;have HQ0:Hq (SQ w.heap.size (.slice ad l.length cap) (.slice sd st.length sap) sc d p n (W0.alloc (.cells #[] 119))):=⟨SQ.below ⟨hsx,hsr⟩ (bZ.alloc lZ _)⟩;have HB0:=qh (hb0.alloc hb0.size (.cells #[] 119));have HLE:=qh hm.outs;have hl:=hm.len
 have HA0:=qh (show Acc 119 2 entE (w.heap.size+2) (W0.alloc (.cells #[] 119)) (.slice (some ⟨w.heap.size+2,0,none⟩) 0 0) [] [] from
  Acc.nil (by have h:=World.ownsRow_lit (base:=w.heap.size+2) (e:=119) (size:=2) W0 #[] 0 oZ (Nat.zero_le _) sZ;rw [hzW]at h;simpa using h) (by simp;omega))
 clear hsx hsr hb0 hu hus HX HR HB
 go_enter func67,ntmps67
 go_upto_region 2 with fail
 try rw [hW0]
 clear hW0
 obtain⟨⟨o0,o1,o2,o3,o4,o5,o6⟩,_⟩:=HQ0.o.1
 go_wp2_with fail
 go_loopw [3,11] (λs i wr=>∃(j:Nat) (xs:List Value),j<=l.length/\i=.int .i64 j/\SQ w.heap.size (.slice ad l.length cap) (.slice sd st.length sap) sc d p n wr/\Acc 119 2 entE (w.heap.size+2) wr s (l.take j) xs/\Bl w wr) (λ_ i _=>l.length-(intOf i).toNat)
 case atStart=>exact⟨0,[],Nat.zero_le _,rfl,HQ0.o,HA0.o,HB0.o⟩
 case round=>
  obtain⟨j,xs,hj,rfl,hq,hacc,hb⟩:=hrel;have HQ:=qh hq;clear HA0 HQ0 HB0 hq;have HBZ:=qh (show w.heap.size+2<=wr.heap.size by obtain⟨_,_,_,_,h,_⟩:=hacc;exact h);have hlt0:(l.take j).length=j:=by rw [List.length_take];omega
  have HA:=qh hacc;have HB:=qh hb;have HL0:=qh hlt0;obtain⟨uad,ucap,hu'⟩:=hacc.form;rw [hlt0]at hu';subst hu';clear hlt0 hacc
  by_cases hlt:j<l.length
  .obtain⟨g,o,hga,hgs,x,c0,c1,hx⟩:=(HU.o.below hb).at j hlt;have HEN:=qh (a0g l j hlt);have hll:=HLE.o _ (List.getElem_mem hlt);have hba:=(Below.refl wr.heap.size wr).alloc lZ (.cells #[x,.string (S l[j].2)] 119);have HX:=qh (hx.below hba);have HBA:=qh hba;obtain⟨xd,xc,rfl,_,_⟩:=hx;subst hga;generalize l[j]=en at *;obtain⟨eo,et⟩:=en;simp only at hll HX HBA c1;have i1:(j:Int)<(l.length:Int):=by omega
   clear hb hba;go_wp2_with fail;refine (copied _ eo et _ HX.o oZ).mono ?_;rintro e v1 ⟨x1,rfl,hI,hb1⟩;have hzz:wr.heap.size+1<=v1.heap.size:=by have:=hb1.size;simp at this;omega
   have HZ1:=qh hzz;have HB1:Hq (Bl wr v1):=⟨HBA.o.trans (hb1.mono sZ)⟩;have HQ1:=qh (HQ.o.below HB1.o);have HI:=qh hI;obtain⟨x1d,x1c,rfl,_,_⟩:=hI;clear hb1;refine zm52 ?_;intro HA2;have HOW:=qh (show (v1.alloc (.cells #[.slice x1d eo.length x1c,.string (S et)] 119)).ownsRow (w.heap.size+2) 119 2 (.slice uad j ucap) j xs by have:=HA2.o.owns;rwa [HL0.o]at this);go_wp2_with (at_builtin;refine wpList_append_lies _ rfl _ _ 24 rfl (w.heap.size+2) 119 i0 (.agg #[.slice none 0 0,.string ⟨#[]⟩]) 2 40 underlying24 hi hz0 hz1 hz2 rfl dZ (.slice uad j ucap) j xs rfl HOW.o ⟨v1.heap.size,0,none⟩ 1 1 [.slice x1d eo.length x1c,.string (S et)] rfl rfl ?_ ?_ (Nat.zero_lt_one) ?_ ?_ ?_ _ rfl ?_)
   .exact zq24
   .intro y hy;exact zq38
   .unfold maxLen;omega
   .omega
   .have h1:=HZ1.o;have h2:=HBZ.o;simp;omega
   intro g1 cap1 v3 hown hgr hat hlt3
   have HB3:=qh (show Below (w.heap.size+2) (v1.alloc (.cells #[.slice x1d eo.length x1c,.string (S et)] 119)) v3 from
    bZ.grown hgr (by have h1:=HZ1.o;have h2:=HBZ.o;simp;omega) (λk hk=>(World.ownsRow.lt HA2.o.owns k hk).1))
   refine zm10 ?_;intro HAC hb2 HBW;have HQ3:=qh (SQ.grown HQ1.o HA2.o.owns hgr);clear hown hgr hat hlt3 hb2 hzz;go_wp2;go_roundw
   case rel=>exact⟨j+1,_,by omega,by go_num,HQ3.o,by rw [HEN.o];have h:=HAC.o;rw [HL0.o]at h;exact h,HBW.o⟩
   case measure=>exact zq
  .have hjl:j=l.length:=by omega
   subst hjl;have HT:Hq (l.take l.length=l):=⟨List.take_length⟩;have HROW:Hq (Ents wr (Bet (w.heap.size+2) wr.heap.size) (.slice uad l.length ucap) l):=⟨by have h:=HA.o;rw [HT.o]at h;exact h.row oZ⟩;have HXD:=qh (HQ.o.1.below bZ.drew);have HRD:=qh (HQ.o.2.below bZ.drew);have HBD:=qh (HB.o.trans (bZ.drew.mono HB.o.size));have HDD:=qh (HROW.o.below a0f bZ.drew);have hy1:w.heap.size+2<=wr.drew.heap.size:=HBZ.o;have HZD:Hq (wr.heap.size=wr.drew.heap.size):=⟨rfl⟩;clear hb HA;go_upto_region 7 with fail;refine zm6 ?_;intro hS0;rw [HZD.o]at HDD;generalize wr.drew=y0 at *;refine zm37 ?_;refine tk2 4 hS0 ?_;refine tk2 6 hS0 ?_;refine tk2 7 hS0 ?_;refine tk2 8 hS0 ?_;refine tk2 10 hS0 ?_;refine tk2 11 hS0 ?_;refine trd 5 λK hK=>?_;go_simp;refine (a9y _ st _ (HUS.o.below HBD.o) hst).mono ?_;rintro e y2 ⟨mu,rfl,hk,hb⟩;have HR2:=qh (HRD.o.below hb);have HB2:=bt HBD hb;have HD2:=qh (HDD.o.below a0f hb);have HI2:Hq (Ints y2 (Bet y0.heap.size y2.heap.size) mu st):=⟨(a7b (B:=y0.heap.size) hk hst).wide (λb h=>h.1) (λb h=>h.2)⟩;have hy2:=hb.size;refine hK.out _ _ (hS0.below hb) (λhS2=>?_);obtain⟨ma,mc,rfl⟩:=a0h hk;clear hK K hb hS0 hk;refine zm0 ?_;refine tk2 9 hS2 ?_;refine tk2 12 hS2 ?_;obtain⟨⟨r0,r1,r2,r3,r4,r5,r6⟩,f0,f1,f2,f3,f4,f5⟩:=HR2.o;obtain⟨V,hV⟩:∃v,((((((y2.setCell ⟨w.heap.size+1,0,none⟩ (.slice uad l.length ucap)).setCell ⟨w.heap.size+1,1,none⟩ (.slice ma st.length mc)).setCell ⟨w.heap.size+1,2,none⟩ (.string (S sc))).setCell ⟨w.heap.size+1,3,none⟩ (.string (S d))).setCell ⟨w.heap.size+1,4,none⟩ (.string (S p))).setCell ⟨w.heap.size+1,5,none⟩ (.int .i64 n))=v:=⟨_,rfl⟩;have hset:Chg (λb=>b=w.heap.size+1) y2 V:=by rw [<-hV];exact (((((((Chg.refl (λb=>b=w.heap.size+1) y2).setCell (p:=⟨w.heap.size+1,0,none⟩) rfl _).setCell (p:=⟨w.heap.size+1,1,none⟩) rfl _).setCell (p:=⟨w.heap.size+1,2,none⟩) rfl _).setCell (p:=⟨w.heap.size+1,3,none⟩) rfl _).setCell (p:=⟨w.heap.size+1,4,none⟩) rfl _).setCell (p:=⟨w.heap.size+1,5,none⟩) rfl _)
   have HRV:Hq (SOut (w.heap.size+1) (.slice uad l.length ucap) (.slice ma st.length mc) sc d p n V):=⟨by rw [<-hV];exact ((HR2.o.set0 (x:=.slice uad l.length ucap)).set1 (x:=.slice ma st.length mc) (r:=sc)).set3 (d':=d) (p':=p) (n':=n)⟩;refine zm46 ?_;intro HBV HD3 HI3;have hy3:=hset.size;refine trd 13 λK hK=>?_;go_simp;refine hK.out _ _ (by (try rw [hV]);exact hS2.a0b hset (λh=>by have h9:w.heap.size=w.heap.size+1:=h;omega)) (λhS3=>?_);clear hK K;try rw [hV]at hS3⊢
   clear r0 r1 r2 r3 r4 r5 r6 f0 f1 f2 f3 f4 f5;refine zm0 ?_;refine wpAnyH_done kZ ?_ _;go_wp2;refine zn50 ?_;intro q0 q1 q2 q3 q4 q5 q6;clear hset hV;refine bodyPost_ret (v:=a1a (.slice uad l.length ucap) (.slice ma st.length mc) sc d p n) (by simp [results,results67,go_sem,q0,q1,q2,q3,q4,q5]) rfl ⟨_,_,y0.heap.size,rfl,HD3.o.wide (λb hb=>⟨by have h1:=hb.1;omega,hb.2⟩) (λb hb=>by have h1:=hb.2;omega),HI3.o.wide (λb hb=>⟨hb.1,by have h1:=hb.2;omega⟩) (λb hb=>hb.2),by omega,by omega,HBV.o⟩
def wr6 (v:World) (b:Nat) (u us:Value) (sc d p:Str) (n:Int):World:=
 (((((v.setCell ⟨b,0,none⟩ u).setCell ⟨b,1,none⟩ us).setCell ⟨b,2,none⟩ (.string (S sc))).setCell ⟨b,3,none⟩ (.string (S d))).setCell ⟨b,4,none⟩ (.string (S p))).setCell ⟨b,5,none⟩ (.int .i64 n)
theorem a3m (v:World) (b:Nat) (u us:Value) (sc d p:Str) (n:Int):Chg (λk=>k=b) v (wr6 v b u us sc d p n):=by
 have h:=Chg.refl (λk=>k=b) v;exact (((((h.setCell (p:=⟨b,0,none⟩) rfl _).setCell (p:=⟨b,1,none⟩) rfl _).setCell (p:=⟨b,2,none⟩) rfl _).setCell (p:=⟨b,3,none⟩) rfl _).setCell (p:=⟨b,4,none⟩) rfl _).setCell (p:=⟨b,5,none⟩) rfl _
theorem a5o {b:Nat} {us0:Value} {sc0 d0 p0:Str} {n0:Int} (h:SOut b u0 us0 sc0 d0 p0 n0 v) (u us:Value) (sc d p:Str) (n:Int):SOut b u us sc d p n (wr6 v b u us sc d p n):=
 ((h.set0 (x:=u)).set1 (x:=us) (r:=sc)).set3
def wr3 (v:World) (b:Nat) (d p:Str) (n:Int):World:=((v.setCell ⟨b,3,none⟩ (.string (S d))).setCell ⟨b,4,none⟩ (.string (S p))).setCell ⟨b,5,none⟩ (.int .i64 n)
theorem b4d (v:World) (b:Nat) (d p:Str) (n:Int):Chg (λk=>k=b) v (wr3 v b d p n):=
 (((Chg.refl (λk=>k=b) v).setCell (p:=⟨b,3,none⟩) rfl _).setCell (p:=⟨b,4,none⟩) rfl _).setCell (p:=⟨b,5,none⟩) rfl _
theorem a3b.lo {lo:Nat} {lo':Nat} (h:a3b lo B v u us l st) (hl:lo'<=lo):a3b lo' B v u us l st:=by
 obtain⟨F,G,h1,h2,h3,h4,h5⟩:=h;exact⟨F,G,h1,h2,λb hb=>⟨Nat.le_trans hl (h3 b hb).1,(h3 b hb).2⟩,λb hb=>⟨Nat.le_trans hl (h4 b hb).1,(h4 b hb).2⟩,h5⟩
theorem a3b.a7r {lo:Nat} (h:a3b lo B v u us l st) (hc:Chg X v v') (hX:∀b,X b->b<lo):a3b lo B v' u us l st:=by
 obtain⟨F,G,h1,h2,h3,h4,h5⟩:=h;have hz:=hc.size;exact⟨F,G,h1.a0b a0f hc (λb hb hx=>by have:=h3 b hb;have:=hX b hx;omega),h2.a0b a1l hc (λb hb hx=>by have:=h4 b hb;have:=hX b hx;omega),λb hb=>⟨(h3 b hb).1,Nat.lt_of_lt_of_le (h3 b hb).2.1 hz,(h3 b hb).2.2⟩,λb hb=>⟨(h4 b hb).1,Nat.lt_of_lt_of_le (h4 b hb).2.1 hz,(h4 b hb).2.2⟩,h5⟩
theorem a3b.of {lo:Nat} {w:World} (h1:Ents v (Bet w.heap.size m) u l) (h2:Ints v (Bet m v.heap.size) us st) (hlo:lo<=w.heap.size) (hm:m<=v.heap.size) (hwm:w.heap.size<=m) (hB:v.heap.size<=B\/B<w.heap.size):a3b lo B v u us l st:=
 ⟨_,_,h1,h2,λb hb=>⟨Nat.le_trans hlo hb.1,Nat.lt_of_lt_of_le hb.2 hm,λe=>by have h3:=hb.1;have h4:=hb.2;omega⟩,λb hb=>⟨Nat.le_trans (Nat.le_trans hlo hwm) hb.1,hb.2,λe=>by have h3:=hb.1;have h4:=hb.2;omega⟩,λb hb hg=>by have h3:=hb.2;have h4:=hg.1;omega⟩
theorem SesM.log {lo:Nat} (h:SesM lo B s g v):SesM lo B s (d,p,n) (wr3 v B d p n):=by
 obtain⟨h0,h1,u,us,h2,h3⟩:=h;exact⟨h0,Nat.le_trans h1 (b4d v B d p n).size,u,us,h2.set3,h3.a0b (b4d v B d p n) (λb h=>.inl h)⟩
theorem SesM.chg {lo:Nat} (h:SesM lo B s g v) (hc:Chg X v v') (hX:∀b,X b->b<lo) (hB:¬X B):SesM lo B s g v':=by
 obtain⟨h0,h1,u,us,h2,h3⟩:=h;exact⟨h0,Nat.le_trans h1 hc.size,u,us,h2.a0b hc hB,h3.a7r hc hX⟩
def d0b (a:(P.Ses×P.LogT)×Str) (w:World) (e:Ending) (w':World):Prop:=
 ∃u us B,e=.returned (.tuple #[a1a u us a.1.1.2.2 a.1.2.1 a.1.2.2.1 a.1.2.2.2,.string (S a.2)])/\a3b w.heap.size B w' u us a.1.1.1 a.1.1.2.1/\Bl w w'
theorem b6f (o:Option Str):P.a2s o=if 200<(txtB o).length then P.e3q else txtB o:=by
 cases o with
 |none=>rfl
 |some r=>rfl
theorem P.d1h (s:P.Ses) (g:P.LogT) (c:Str):(P.exec s g c).1=(s,g)\/(P.trans (P.exec s g c).1.1.1 (P.exec s g c).1.1.2=true/\(P.exec s g c).1.2.1=g.1/\(P.exec s g c).1.2.2.1.length<=40000):=by
 by_cases h1:P.b0k s g=true
 .by_cases h2:P.good c []=true
  .by_cases h3:g.2.2=60
   .rw [P.a9j h1 h2 h3];exact .inl rfl
   .rw [P.b2r h1 h2 h3];obtain⟨ht,hv⟩:=P.a3d h1;exact .inr ⟨P.b2u ht,rfl,P.c0t hv⟩
  .rw [P.b2t h1 (by simpa using h2)];exact .inl rfl
 .rw [P.c1x (by simpa using h1)];exact .inl rfl
theorem a8p.dic {d:P.Dic} (h:P.dic d=true):a8p d:=
 ⟨by have:=(P.a4d h).1;omega,λe he=>by have:=(P.a7y ((P.a4d h).2.1 e he)).2.1;omega,λe he=>Nat.le_trans (P.b3l h e he) dZ⟩
structure SesD (s:P.Ses) (g:P.LogT):Prop where
 dic:a8p s.1
 str:s.2.1.length<=60
 scr:s.2.2.length<=2000
 dur:g.1.length<=140000
 pen:g.2.1.length<=140000
theorem SesD.fit (h:SesD s g):P.Fit s g:=
 ⟨h.dic.small.len,h.dic.small.outs,h.dic.small.texts,by have:=h.str;omega,by have:=h.dur;omega,by have:=h.pen;omega⟩
theorem SesD.exec (h:SesD s g) (c:Str):SesD (P.exec s g c).1.1 (P.exec s g c).1.2:=by
 rcases P.d1h s g c with e|⟨ht,e1,e2⟩
 .rw [e];exact h
 .have hp:=P.a2c ht;exact⟨a8p.dic (P.b1v ht),P.a4w (P.d4x hp.1).2.1,by rw [<-hp.2.1];exact P.b7m _ _,by rw [e1];exact h.dur,Nat.le_trans e2 dZ⟩
def RdE (lo D:Nat) (v:World) (u:Value) (l:P.Dic):Prop:=a5q lo D v u l\/a5q (D+2) v.heap.size v u l
def RdI (lo D:Nat) (v:World) (u:Value) (l:List Int):Prop:=a7j lo D v u l\/a7j (D+2) v.heap.size v u l
theorem RdE.step {lo:Nat} (h:RdE lo D v u l) (hc:Chg X v v') (hX:∀b,X b->b<lo\/b=D\/b=D+1) (hlo:lo<=D):RdE lo D v' u l:=by
 exact zq124
theorem RdI.step {lo:Nat} {l:List Int} (h:RdI lo D v u l) (hc:Chg X v v') (hX:∀b,X b->b<lo\/b=D\/b=D+1) (hlo:lo<=D):RdI lo D v' u l:=by
 exact zq124
theorem RdE.now {lo:Nat} (h:RdE lo D v u l):EntR v u l:=h.elim (·.now) (·.now)
theorem RdI.now {lo:Nat} {l:List Int} (h:RdI lo D v u l):IntR v u l:=h.elim (·.now) (·.now)
theorem RdE.wide {lo:Nat} (h:RdE lo D v u l) (h1:m<=lo) (h2:m<=D+2) (h3:D<=v.heap.size):a5q m v.heap.size v u l:=
 h.elim (·.wide h1 h3 lZ) (·.wide h2 lZ lZ)
theorem RdI.wide {lo:Nat} {l:List Int} (h:RdI lo D v u l) (h1:m<=lo) (h2:m<=D+2) (h3:D<=v.heap.size):a7j m v.heap.size v u l:=
 h.elim (·.wide h1 h3 lZ) (·.wide h2 lZ lZ)
theorem b7y (lo:Nat) (v:World):a7j lo v.heap.size v (.slice none 0 0) []:=Ints.d9a (F:=λ_=>False) (RowO.nil v _) (λ_ h=>h.elim) lZ
structure a5g (B C K:Nat) (W:World) (D:Nat) (u0:Value) (l0:P.Dic) (u us:Value) (s:P.Ses) (g:P.LogT) (v:World):Prop where
 cur:a0e B C K W v
 env:L.Env v
 dbx:DBx D u0 v
 box:SOut (D+1) u us s.2.2 g.1 g.2.1 g.2.2 v
 rd0:a5q W.heap.size D v u0 l0
 rdE:RdE W.heap.size D v u s.1
 rdI:RdI W.heap.size D v us s.2.1
 fit:SesD s g
 lo:L.EB<=B/\B<=C/\C<W.heap.size/\W.heap.size<=D
theorem a5g.draw (h:a5g B C K W D u0 l0 u us s g v) (hc:a0e B C K' v v'):a5g B C K' W D u0 l0 u us s g v':=by
 obtain⟨l1,l2,l3,l4⟩:=h.lo;exact⟨h.cur.trans hc,hc.envL h.env l1 l2 h.cur.1.lt.2,h.dbx.a0b hc.2 oZ,h.box.a0b hc.2 oZ,h.rd0.chg hc.2 (λb h1 h2 e=>by omega),h.rdE.step hc.2 (λb e=>.inl oZ) l4,h.rdI.step hc.2 (λb e=>.inl oZ) l4,h.fit,h.lo⟩
theorem a5g.call (h:a5g B C K W D u0 l0 u us s g v) (hb:Bl v v'):a5g B C K W D u0 l0 u us s g v':=by
 have hc:=Below.chg hb (λ_=>False);obtain⟨l1,l2,l3,l4⟩:=h.lo;exact⟨h.cur.below hb,h.env.below hb h.env.size,h.dbx.below hb,h.box.below hb,h.rd0.chg hc (λ_ _ _ h=>h),h.rdE.step hc (λ_ h=>h.elim) l4,h.rdI.step hc (λ_ h=>h.elim) l4,h.fit,h.lo⟩
theorem a5g.mono (h:a5g B C K W D u0 l0 u us s g v) (hK:K<=K'):a5g B C K' W D u0 l0 u us s g v:=
 ⟨h.cur.mono hK,h.env,h.dbx,h.box,h.rd0,h.rdE,h.rdI,h.fit,h.lo⟩
theorem a5g.put {u2 us2:Value} {s2:P.Ses} {g2:P.LogT} (h:a5g B C K W D u0 l0 u us s g v) (hc:Chg (λb=>b=D+1) v v') (hbx:SOut (D+1) u2 us2 s2.2.2 g2.1 g2.2.1 g2.2.2 v')
 (hE:RdE W.heap.size D v u2 s2.1) (hI:RdI W.heap.size D v us2 s2.2.1) (hf:SesD s2 g2):a5g B C K W D u0 l0 u2 us2 s2 g2 v':=by
 obtain⟨l1,l2,l3,l4⟩:=h.lo
 have hz:=h.cur.2.size
 exact⟨h.cur.new hc (by rintro b rfl;omega) l3 oZ,h.env.below (hc.below (B:=W.heap.size) hz (by rintro b rfl;omega)) oZ,h.dbx.a0b hc oZ,hbx,h.rd0.chg hc (λb h1 h2 e=>by omega),hE.step hc (λb e=>.inr (.inr e)) l4,hI.step hc (λb e=>.inr (.inr e)) l4,hf,h.lo⟩
theorem a5g.run {line:Str} {e:Ending} (h:a5g B C K W D u0 l0 u us s g v) (hp:d0b (P.exec s g line) v e v') :
 ∃(na ma:Option Addr) (nc mc:Nat) (s2:P.Ses) (g2:P.LogT) (rep:Str),e=.returned (.tuple #[a1a (.slice na s2.1.length nc) (.slice ma s2.2.1.length mc) s2.2.2 g2.1 g2.2.1 g2.2.2,.string (S rep)])/\a5g B C K W D u0 l0 u us s g v' /\
  a5g B C K W D u0 l0 (.slice na s2.1.length nc) (.slice ma s2.2.1.length mc) s2 g2 (wr6 v' (D+1) (.slice na s2.1.length nc) (.slice ma s2.2.1.length mc) s2.2.2 g2.1 g2.2.1 g2.2.2):=by
 obtain⟨nu,nus,BB,rfl,hr,hb⟩:=hp
 have h2:=h.call hb
 have hz:D+2<=v.heap.size:=h.box.1.2.2.2.2.2.2
 obtain⟨na,nc,rfl,_,_⟩:=id hr.dic
 obtain⟨ma,mc,rfl,_,_⟩:=id hr.str
 obtain⟨F,G,h3,h4,h5,h6,_⟩:=hr
 exact⟨na,ma,nc,mc,_,_,_,rfl,h2,h2.put (a3m _ _ _ _ _ _ _ _) (a5o h2.box _ _ _ _ _ _) (.inr (Ents.c4t h3 (λb hb=>⟨Nat.le_trans hz (h5 b hb).1,(h5 b hb).2.1⟩) lZ)) (.inr (Ints.d9a h4 (λb hb=>⟨Nat.le_trans hz (h6 b hb).1,(h6 b hb).2.1⟩) lZ)) (h.fit.exec line)⟩
theorem a5g.start {t:TypeId} (hc:a0e B C K W v) (hE:L.Env v) (hd:a8p l) (hr:a5q W.heap.size v.heap.size v u l) (h1:L.EB<=B) (h2:B<=C) (h3:C<W.heap.size) :
 a5g B C K W v.heap.size u l u (.slice none 0 0) (l,([],[])) ([],[],0) ((v.alloc (.cells #[u] t)).alloc (a0d u (.slice none 0 0) [] [] [] 0)):=by
 have hb1:=(Below.refl v.heap.size v).alloc lZ (.cells #[u] t)
 have hb2:=(Below.refl (v.alloc (.cells #[u] t)).heap.size (v.alloc (.cells #[u] t))).alloc lZ (a0d u (.slice none 0 0) [] [] [] 0)
 have hx:=SOut.new u (.slice none 0 0) [] [] [] 0 (v.alloc (.cells #[u] t))
 rw [show (v.alloc (.cells #[u] t)).heap.size=v.heap.size+1 by simp]at hx
 have hr2:=(hr.chg (Below.chg hb1 (λ_=>False)) (λ_ _ _ h=>h)).chg (Below.chg hb2 (λ_=>False)) (λ_ _ _ h=>h)
 exact⟨(hc.below hb1).below hb2,(hE.alloc _).alloc _,(DBx.new u t v).below hb2,hx,hr2,.inl hr2,.inr ((b7y (v.heap.size+2) _)),⟨hd,Nat.zero_le _,Nat.zero_le _,Nat.zero_le _,Nat.zero_le _⟩,h1,h2,h3,hc.2.size⟩
def c8j (B C K:Nat) (w:World) (e:Ending) (w':World):Prop:=∃(s:P.Ses) (g:P.LogT) (u us:Value),e=.returned (a1a u us s.2.2 g.1 g.2.1 g.2.2)/\a8p s.1/\P.Fit s g/\a5q w.heap.size w'.heap.size w' u s.1/\a7j w.heap.size w'.heap.size w' us s.2.1/\a0e B C K w w'
end Go.Proofs.YtggfdnopminemaaGreatDoor
