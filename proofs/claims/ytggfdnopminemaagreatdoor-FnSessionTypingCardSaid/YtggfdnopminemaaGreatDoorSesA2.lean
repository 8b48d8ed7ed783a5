/- Walks: a session copied (program). -/
import Derived.Test.YtggfdnopminemaaGreatDoorZt
import Derived.Test.YtggfdnopminemaaGreatDoorSesA1
set_option linter.all false
namespace Go.Proofs.YtggfdnopminemaaGreatDoor
open Go Go.RowKit
set_option maxHeartbeats 8000000
set_option maxRecDepth 100000
def SQ (W:Nat) (u us:Value) (sc d p:Str) (n:Int) (v:World):Prop:=SOut W u us sc d p n v∧SOut (W+1) (.slice none 0 0) (.slice none 0 0) [] [] [] 0 v
theorem SQ.below {W:Nat} {u us:Value} {sc d p:Str} {n:Int} {v v':World} (h:SQ W u us sc d p n v) (hb:Below v.heap.size v v'):SQ W u us sc d p n v':=⟨h.1.below hb,h.2.below hb⟩
theorem SQ.grown {W:Nat} {u us x:Value} {sc d p:Str} {n:Int} {v z:World} {o:Obj} {e:TypeId} {sz m:Nat} {xs:List Value} (h:SQ W u us sc d p n v) (ho:(v.alloc o).ownsRow (W+2) e sz x m xs) (hg:(v.alloc o).grownBy z x.ownBlock):SQ W u us sc d p n z:=by
 have h1:=h.below ((Below.refl v.heap.size v).alloc lZ o);exact⟨h1.1.a0c (a6o hg) (fun k=>by have:=(World.ownsRow.lt ho _ k).1;omega),h1.2.a0c (a6o hg) (fun k=>by have:=(World.ownsRow.lt ho _ k).1;omega)⟩
theorem c4y (u us:Value) (l:P.Dic) (st:List Int) (sc d p:Str) (n:Int) (w:World) (hu:EntR w u l) (hus:IntR w us st) (hm:Small l) (hst:st.length≤2^30) :
 Calls Tryz.prog 67 #[a7w u us sc d p n] w (d3s l st sc d p n w):=by
 obtain⟨i0,hi,hz0,hz1,hz2⟩:=info_parts a4n
 have hu0:=hu;have hus0:=hus
 obtain⟨ad,cap,rfl,_,_⟩:=hu0
 obtain⟨sd,sap,rfl,_,_⟩:=hus0
 obtain⟨W0,hW0⟩:∃v,(w.alloc (a0r (.slice ad l.length cap) (.slice sd st.length sap) sc d p n)).alloc (a0r (.slice none 0 0) (.slice none 0 0) [] [] [] 0)=v:=⟨_,rfl⟩
 have hb0:Below w.heap.size w W0:=by rw [←hW0];exact ((Below.refl w.heap.size w).alloc lZ _).alloc sZ _
 have hzW:W0.heap.size=w.heap.size+2:=by rw [←hW0];simp
 have hsx:SOut w.heap.size (.slice ad l.length cap) (.slice sd st.length sap) sc d p n W0:=by
  rw [←hW0];exact (SOut.new (.slice ad l.length cap) (.slice sd st.length sap) sc d p n w).below (bZ.alloc lZ _)
 have hsr:SOut (w.heap.size+1) (.slice none 0 0) (.slice none 0 0) [] [] [] 0 W0:=by
  rw [←hW0];have h:=SOut.new (.slice none 0 0) (.slice none 0 0) [] [] [] 0 (w.alloc (a0r (.slice ad l.length cap) (.slice sd st.length sap) sc d p n))
  simpa using h
 have HU:=qh hu;have HUS:=qh hus
 have HX:=qh hsx;have HR:=qh hsr;have HB:=qh hb0
 have HQ0:=qh (show SQ w.heap.size (.slice ad l.length cap) (.slice sd st.length sap) sc d p n (W0.alloc (.cells #[] 119)) from SQ.below ⟨hsx,hsr⟩ (bZ.alloc lZ _))
 have HB0:=qh (hb0.alloc hb0.size (.cells #[] 119))
 have HLE:=qh hm.outs
 have hl:=hm.len
 have HA0:=qh (show Acc 119 2 entE (w.heap.size+2) (W0.alloc (.cells #[] 119)) (.slice (some ⟨w.heap.size+2,0,none⟩) 0 0) [] [] from
  Acc.nil (by have h:=World.ownsRow_lit (base:=w.heap.size+2) (e:=119) (size:=2) W0 #[] 0 oZ (Nat.zero_le _) sZ;rw [hzW]at h;simpa using h) (by simp;omega))
 clear hsx hsr hb0 hu hus HX HR HB
 go_enter Tryz.func67,Tryz.ntmps67
 go_upto_region 2 with fail
 try rw [hW0]
 clear hW0
 obtain⟨⟨o0,o1,o2,o3,o4,o5,o6⟩,_⟩:=HQ0.o.1
 go_wp2_with fail
 go_loopw [3,11] (fun s i wr=>∃(j:Nat) (xs:List Value),j≤l.length∧i=.int .i64 j∧SQ w.heap.size (.slice ad l.length cap) (.slice sd st.length sap) sc d p n wr∧Acc 119 2 entE (w.heap.size+2) wr s (l.take j) xs∧Below w.heap.size w wr) (fun _ i _=>l.length-(intOf i).toNat)
 case atStart=>exact⟨0,[],Nat.zero_le _,rfl,HQ0.o,HA0.o,HB0.o⟩
 case round=>
  obtain⟨j,xs,hj,rfl,hq,hacc,hb⟩:=hrel;have HQ:=qh hq;clear HA0 HQ0 HB0 hq;have HBZ:=qh (show w.heap.size+2≤wr.heap.size by obtain⟨_,_,_,_,h,_⟩:=hacc;exact h);have hlt0:(l.take j).length=j:=by rw [List.length_take];omega
  have HA:=qh hacc;have HB:=qh hb;have HL0:=qh hlt0;obtain⟨uad,ucap,hu'⟩:=hacc.form;rw [hlt0]at hu';subst hu';clear hlt0 hacc
  by_cases hlt:j<l.length
  ·obtain⟨g,o,hga,hgs,x,c0,c1,hx⟩:=(HU.o.below hb).at j hlt;have HEN:=qh (a0h l j hlt);have hll:=HLE.o _ (List.getElem_mem hlt);have hba:=(Below.refl wr.heap.size wr).alloc lZ (.cells #[x,.string (S l[j].2)] 119);have HX:=qh (hx.below hba);have HBA:=qh hba;obtain⟨xd,xc,rfl,_,_⟩:=hx;subst hga;generalize l[j]=en at *;obtain⟨eo,et⟩:=en;simp only at hll HX HBA c1;have i1:(j:Int)<(l.length:Int):=by omega
   clear hb hba
   go_wp2_with fail
   refine (copied _ eo et _ HX.o oZ).mono ?_;rintro e v1 ⟨x1,rfl,hI,hb1⟩;have hzz:wr.heap.size+1≤v1.heap.size:=by have:=hb1.size;simp at this;omega
   have HZ1:=qh hzz;have HB1:=qh (show Below wr.heap.size wr v1 from HBA.o.trans (hb1.mono sZ));have HQ1:=qh (HQ.o.below HB1.o);have HI:=qh hI;obtain⟨x1d,x1c,rfl,_,_⟩:=hI;clear hb1;have HA2:=qh ((HA.o.keep a0e HB1.o).keep a0e ((Below.refl v1.heap.size v1).alloc lZ (.cells #[.slice x1d eo.length x1c,.string (S et)] 119)));have HOW:=qh (show (v1.alloc (.cells #[.slice x1d eo.length x1c,.string (S et)] 119)).ownsRow (w.heap.size+2) 119 2 (.slice uad j ucap) j xs by have:=HA2.o.owns;rwa [HL0.o]at this)
   go_wp2_with (at_builtin;refine wpList_append_lies _ rfl _ _ 24 rfl (w.heap.size+2) 119 i0 (.agg #[.slice none 0 0,.string ⟨#[]⟩]) 2 40 Tryz.underlying24 hi hz0 hz1 hz2 rfl dZ (.slice uad j ucap) j xs rfl HOW.o ⟨v1.heap.size,0,none⟩ 1 1 [.slice x1d eo.length x1c,.string (S et)] rfl rfl ?_ ?_ (Nat.zero_lt_one) ?_ ?_ ?_ _ rfl ?_)
   ·exact zq12
   ·exact zq16
   ·unfold maxLen;omega
   ·omega
   ·have h1:=HZ1.o;have h2:=HBZ.o;simp;omega
   intro g1 cap1 v3 hown hgr hat hlt3
   have HB3:=qh (show Below (w.heap.size+2) (v1.alloc (.cells #[.slice x1d eo.length x1c,.string (S et)] 119)) v3 from
    bZ.grown hgr (by have h1:=HZ1.o;have h2:=HBZ.o;simp;omega) (fun k hk=>(World.ownsRow.lt HA2.o.owns k hk).1))
   have HAC:=qh (HA.o.snoc (a:=(eo,et)) (cs:=[.slice x1d eo.length x1c,.string (S et)]) (v1:=v1) (v2:=v1.alloc (.cells #[.slice x1d eo.length x1c,.string (S et)] 119)) (v3:=v3) (g:=g1) (cap:=cap1) (F:=Bet (wr.heap.size+1) v1.heap.size) a0e HB1.o (fun b hb=>⟨by have:=hb.1;omega,hb.2⟩) (a9t (by have:=HI.o;simpa using this)) rfl (bZ.alloc lZ _) (by rw [HL0.o];exact hown) hgr (by simpa using hat));have hb2:Below w.heap.size w v3:=((HB.o.trans (HB1.o.mono (by have:=HBZ.o;omega))).trans ((Below.refl w.heap.size v1).alloc (by have h1:=HZ1.o;have h2:=HBZ.o;omega) _)).trans (HB3.o.mono oZ);have HBW:=qh hb2;have HQ3:=qh (SQ.grown HQ1.o HA2.o.owns hgr);clear hown hgr hat hlt3 hb2 hzz;go_wp2
   go_roundw
   case rel=>exact⟨j+1,_,by omega,by go_num,HQ3.o,by rw [HEN.o];have h:=HAC.o;rw [HL0.o]at h;exact h,HBW.o⟩
   case measure=>simp [intOf];omega
  ·have hjl:j=l.length:=by omega
   subst hjl;have HT:=qh (show l.take l.length=l from List.take_length);have HROW:=qh (show Ents wr (Bet (w.heap.size+2) wr.heap.size) (.slice uad l.length ucap) l from by have h:=HA.o;rw [HT.o]at h;exact h.row oZ);have HXD:=qh (HQ.o.1.below bZ.drew);have HRD:=qh (HQ.o.2.below bZ.drew);have HBD:=qh (HB.o.trans (bZ.drew.mono HB.o.size));have HDD:=qh (HROW.o.below a0e bZ.drew);have hy1:w.heap.size+2≤wr.drew.heap.size:=HBZ.o;have HZD:=qh (show wr.heap.size=wr.drew.heap.size from rfl);clear hb HA
   go_upto_region 7 with fail
   refine wp_region_held_drew (S:=SOut w.heap.size (.slice ad l.length cap) (.slice sd st.length sap) sc d p n) kZ HXD.o (fun hS0=>?_);rw [HZD.o]at HDD;generalize wr.drew=y0 at *;refine tk8 0 hS0 ?_;refine tk8 1 hS0 ?_;refine tk8 2 hS0 ?_;refine tk8 3 hS0 ?_;refine tk8 4 hS0 ?_;refine tk8 6 hS0 ?_;refine tk8 7 hS0 ?_;refine tk8 8 hS0 ?_;refine tk8 10 hS0 ?_;refine tk8 11 hS0 ?_;refine trd 5 fun K hK=>?_;go_simp;refine (a7n _ st _ (HUS.o.below HBD.o) hst).mono ?_;rintro e y2 ⟨mu,rfl,hk,hb⟩;have HR2:=qh (HRD.o.below hb);have HB2:=bt HBD hb;have HD2:=qh (HDD.o.below a0e hb);have HI2:=qh (show Ints y2 (Bet y0.heap.size y2.heap.size) mu st from (a7e (B:=y0.heap.size) hk hst).wide (fun b h=>h.1) (fun b h=>h.2));have hy2:=hb.size;refine hK.out _ _ (hS0.below hb) (fun hS2=>?_);obtain⟨ma,mc,rfl⟩:=a0j hk;clear hK K hb hS0 hk
   try simp only [qA,qB,qC,Act.put,qD,qE,qF]
   refine tk8 9 hS2 ?_;refine tk8 12 hS2 ?_;obtain⟨⟨r0,r1,r2,r3,r4,r5,r6⟩,f0,f1,f2,f3,f4,f5⟩:=HR2.o;obtain⟨V,hV⟩:∃v,((((((y2.setCell ⟨w.heap.size+1,0,none⟩ (.slice uad l.length ucap)).setCell ⟨w.heap.size+1,1,none⟩ (.slice ma st.length mc)).setCell ⟨w.heap.size+1,2,none⟩ (.string (S sc))).setCell ⟨w.heap.size+1,3,none⟩ (.string (S d))).setCell ⟨w.heap.size+1,4,none⟩ (.string (S p))).setCell ⟨w.heap.size+1,5,none⟩ (.int .i64 n))=v:=⟨_,rfl⟩;have hset:Chg (fun b=>b=w.heap.size+1) y2 V:=by rw [←hV];exact (((((((Chg.refl (fun b=>b=w.heap.size+1) y2).setCell (p:=⟨w.heap.size+1,0,none⟩) rfl _).setCell (p:=⟨w.heap.size+1,1,none⟩) rfl _).setCell (p:=⟨w.heap.size+1,2,none⟩) rfl _).setCell (p:=⟨w.heap.size+1,3,none⟩) rfl _).setCell (p:=⟨w.heap.size+1,4,none⟩) rfl _).setCell (p:=⟨w.heap.size+1,5,none⟩) rfl _)
   have HRV:=qh (show SOut (w.heap.size+1) (.slice uad l.length ucap) (.slice ma st.length mc) sc d p n V from by rw [←hV];exact ((HR2.o.set0 (x:=.slice uad l.length ucap)).set1 (x:=.slice ma st.length mc) (r:=sc)).set3 (d':=d) (p':=p) (n':=n));have HBV:=qh (Chg.a0x HB2.o hset HB2.o.size (fun b h=>by have h9:b=w.heap.size+1:=h;omega));have HD3:=qh (HD2.o.a0c a0e hset (fun b hb h=>by have h9:b=w.heap.size+1:=h;have h8:=hb.1;omega));have HI3:=qh (HI2.o.a0c a1a hset (fun b hb h=>by have h9:b=w.heap.size+1:=h;have h8:=hb.1;omega));have hy3:=hset.size;refine trd 13 fun K hK=>?_;go_simp;refine hK.out _ _ (by (try rw [hV]);exact hS2.a0c hset (fun h=>by have h9:w.heap.size=w.heap.size+1:=h;omega)) (fun hS3=>?_);clear hK K
   try rw [hV]at hS3⊢
   clear r0 r1 r2 r3 r4 r5 r6 f0 f1 f2 f3 f4 f5
   try simp only [qA,qB,qC,Act.put,qD,qE,qF]
   refine wpAnyH_done kZ ?_ _;go_wp2
   try rw [hV]
   clear hset hV;obtain⟨q0,q1,q2,q3,q4,q5,q6⟩:=HRV.o.1;refine bodyPost_ret (v:=a7w (.slice uad l.length ucap) (.slice ma st.length mc) sc d p n) (by simp [results,Tryz.results67,go_sem,q0,q1,q2,q3,q4,q5]) rfl ⟨_,_,y0.heap.size,rfl,HD3.o.wide (fun b hb=>⟨by have h1:=hb.1;omega,hb.2⟩) (fun b hb=>by have h1:=hb.2;omega),HI3.o.wide (fun b hb=>⟨hb.1,by have h1:=hb.2;omega⟩) (fun b hb=>hb.2),by omega,by omega,HBV.o⟩
def wr6 (v:World) (b:Nat) (u us:Value) (sc d p:Str) (n:Int):World:=
 (((((v.setCell ⟨b,0,none⟩ u).setCell ⟨b,1,none⟩ us).setCell ⟨b,2,none⟩ (.string (S sc))).setCell ⟨b,3,none⟩ (.string (S d))).setCell ⟨b,4,none⟩ (.string (S p))).setCell ⟨b,5,none⟩ (.int .i64 n)
theorem b2l (v:World) (b:Nat) (u us:Value) (sc d p:Str) (n:Int):Chg (fun k=>k=b) v (wr6 v b u us sc d p n):=by
 have h:=Chg.refl (fun k=>k=b) v;exact (((((h.setCell (p:=⟨b,0,none⟩) rfl _).setCell (p:=⟨b,1,none⟩) rfl _).setCell (p:=⟨b,2,none⟩) rfl _).setCell (p:=⟨b,3,none⟩) rfl _).setCell (p:=⟨b,4,none⟩) rfl _).setCell (p:=⟨b,5,none⟩) rfl _
theorem b1t {v:World} {b:Nat} {u0 us0:Value} {sc0 d0 p0:Str} {n0:Int} (h:SOut b u0 us0 sc0 d0 p0 n0 v) (u us:Value) (sc d p:Str) (n:Int):SOut b u us sc d p n (wr6 v b u us sc d p n):=
 ((h.set0 (x:=u)).set1 (x:=us) (r:=sc)).set3
def wr3 (v:World) (b:Nat) (d p:Str) (n:Int):World:=((v.setCell ⟨b,3,none⟩ (.string (S d))).setCell ⟨b,4,none⟩ (.string (S p))).setCell ⟨b,5,none⟩ (.int .i64 n)
theorem c0i (v:World) (b:Nat) (d p:Str) (n:Int):Chg (fun k=>k=b) v (wr3 v b d p n):=
 (((Chg.refl (fun k=>k=b) v).setCell (p:=⟨b,3,none⟩) rfl _).setCell (p:=⟨b,4,none⟩) rfl _).setCell (p:=⟨b,5,none⟩) rfl _
theorem a2s.lo {lo lo' B:Nat} {v:World} {u us:Value} {l:P.Dic} {st:List Int} (h:a2s lo B v u us l st) (hl:lo'≤lo):a2s lo' B v u us l st:=by
 obtain⟨F,G,h1,h2,h3,h4,h5⟩:=h;exact⟨F,G,h1,h2,fun b hb=>⟨Nat.le_trans hl (h3 b hb).1,(h3 b hb).2⟩,fun b hb=>⟨Nat.le_trans hl (h4 b hb).1,(h4 b hb).2⟩,h5⟩
theorem a2s.a8h {lo B:Nat} {v v':World} {u us:Value} {l:P.Dic} {st:List Int} {X:Blk} (h:a2s lo B v u us l st) (hc:Chg X v v') (hX:∀b,X b→b<lo):a2s lo B v' u us l st:=by
 obtain⟨F,G,h1,h2,h3,h4,h5⟩:=h;have hz:=hc.size;exact⟨F,G,h1.a0c a0e hc (fun b hb hx=>by have:=h3 b hb;have:=hX b hx;omega),h2.a0c a1a hc (fun b hb hx=>by have:=h4 b hb;have:=hX b hx;omega),fun b hb=>⟨(h3 b hb).1,Nat.lt_of_lt_of_le (h3 b hb).2.1 hz,(h3 b hb).2.2⟩,fun b hb=>⟨(h4 b hb).1,Nat.lt_of_lt_of_le (h4 b hb).2.1 hz,(h4 b hb).2.2⟩,h5⟩
theorem a2s.of {lo B m:Nat} {w v:World} {u us:Value} {l:P.Dic} {st:List Int} (h1:Ents v (Bet w.heap.size m) u l) (h2:Ints v (Bet m v.heap.size) us st) (hlo:lo≤w.heap.size) (hm:m≤v.heap.size) (hwm:w.heap.size≤m) (hB:v.heap.size≤B∨B<w.heap.size):a2s lo B v u us l st:=
 ⟨_,_,h1,h2,fun b hb=>⟨Nat.le_trans hlo hb.1,Nat.lt_of_lt_of_le hb.2 hm,fun e=>by have h3:=hb.1;have h4:=hb.2;omega⟩,fun b hb=>⟨Nat.le_trans (Nat.le_trans hlo hwm) hb.1,hb.2,fun e=>by have h3:=hb.1;have h4:=hb.2;omega⟩,fun b hb hg=>by have h3:=hb.2;have h4:=hg.1;omega⟩
theorem SesM.log {lo B:Nat} {s:P.Ses} {g:P.LogT} {v:World} {d p:Str} {n:Int} (h:SesM lo B s g v):SesM lo B s (d,p,n) (wr3 v B d p n):=by
 obtain⟨h0,h1,u,us,h2,h3⟩:=h;exact⟨h0,Nat.le_trans h1 (c0i v B d p n).size,u,us,h2.set3,h3.a0c (c0i v B d p n) (fun b h=>.inl h)⟩
theorem SesM.chg {lo B:Nat} {s:P.Ses} {g:P.LogT} {v v':World} {X:Blk} (h:SesM lo B s g v) (hc:Chg X v v') (hX:∀b,X b→b<lo) (hB:¬X B):SesM lo B s g v':=by
 obtain⟨h0,h1,u,us,h2,h3⟩:=h;exact⟨h0,Nat.le_trans h1 hc.size,u,us,h2.a0c hc hB,h3.a8h hc hX⟩
def ExPost (a:(P.Ses×P.LogT)×Str) (w:World) (e:Ending) (w':World):Prop:=
 ∃u us B,e=.returned (.tuple #[a7w u us a.1.1.2.2 a.1.2.1 a.1.2.2.1 a.1.2.2.2,.string (S a.2)])∧a2s w.heap.size B w' u us a.1.1.1 a.1.1.2.1∧Below w.heap.size w w'
theorem b9v (o:Option Str):P.a3a o=if 200<(txtB o).length then P.a6e else txtB o:=by
 cases o with
 |none=>rfl
 |some r=>rfl
theorem c3d (lo B:Nat) (l:P.Dic) (st:List Int) (sc d p:Str) (n:Int) (word more:Str) (w:World) (h:SesM lo B (l,(st,sc)) (d,p,n) w) (hm:Small l) (ht:P.trans l (st,sc)=true) (hl:more.length≤2^20) (hE:L.Env w) :
 Calls Tryz.prog 70 #[.pointer (some ⟨B,0,none⟩),.string (S word),.string (S more)] w (a4l lo B (P.args (l,(st,sc)) word more) (d,p,n) w):=by
 have HSM:=qh h;have HE:=qh hE;have HT:=qh ht
 have HP0:=qh (show P.args (l,(st,sc)) word more=if word=P.b8i then P.a6z (l,(st,sc)) more else if word=P.d2f∨word=P.b5f∨word=P.c6z then P.b3k (l,(st,sc)) word more else if word=P.c5l then P.a5r (l,(st,sc)) more else if word=P.c2y then ((l,(st,sc)),P.a7o l more) else if word=P.wJoin then ((l,(st,sc)),P.a0t more) else if word=P.d3c then ((l,(st,sc)),P.c6c more) else ((l,(st,sc)),none) from rfl)
 have HDC:=qh (P.c3o ht)
 clear h hE ht
 by_cases h1:word=[112,114,101,115,115]
 ·have HP0:=qh (HP0.o.trans (if_pos h1));have f1:=P.beqB h1;clear h1
  go_enter Tryz.func70,Tryz.ntmps70
  go_wp2_with fail
  refine (a6i more _ oZ).mono ?_;rintro e w1 ⟨rfl,hb⟩;have HB1:=qh hb;clear hb;have HPR:=qh (show P.a6z (l,(st,sc)) more=if (P.parse more).2 then P.typed (l,(st,sc)) [((P.parse more).1:Int)] else ((l,(st,sc)),none) from rfl);generalize P.parse more=q at *;obtain⟨k,q⟩:=q;simp only at HPR⊢
  cases q
  ·have HP:=qh (HP0.o.trans (HPR.o.trans (if_neg dZ)));go_wp2;go_ret2;exact HSM.o.keep (x:=[]) HB1.o HP.o
  ·have HP:=qh (HP0.o.trans (HPR.o.trans (if_pos rfl)));have hba:=(Below.refl w1.heap.size w1).alloc lZ (.cells #[.int .i64 (k:Int)] 3);have HB2:=bt HB1 hba;have HS2:=qh (HSM.o.below HB2.o);have HE2:=qh (HE.o.below HB2.o HE.o.size);have HO:=qh (c6w (k:Int) w1);clear hba
   go_wp2_with fail
   refine (a8d lo B _ l st [(k:Int)] sc d p n _ HS2.o hm HT.o HO.o HE2.o).mono ?_;rintro e w2 hmp;obtain⟨x,ok,rfl,hx,hs,hc⟩:=hmp.after HB2.o;have HX:=qh hx;have HS:=qh hs;have HC:=qh hc;clear hmp hx hs hc;exact zq13
 have HP1:=qh (HP0.o.trans (if_neg h1))
 have f1:=P.beqN h1
 clear HP0 h1
 by_cases ho_type:word=[116,121,112,101]
 ·have HP:=qh (HP1.o.trans (if_pos (.inl ho_type)));have f_type:=P.beqB ho_type;clear ho_type;exact zq90
 by_cases ho_delete:word=[100,101,108,101,116,101]
 ·have HP:=qh (HP1.o.trans (if_pos (.inr (.inl ho_delete))));have f_type:=P.beqN ho_type;have f_delete:=P.beqB ho_delete;clear ho_delete ho_type;exact zq90
 by_cases ho_lookup:word=[108,111,111,107,117,112]
 ·have HP:=qh (HP1.o.trans (if_pos (.inr (.inr ho_lookup))));have f_type:=P.beqN ho_type;have f_delete:=P.beqN ho_delete;have f_lookup:=P.beqB ho_lookup;clear ho_lookup ho_type ho_delete;exact zq90
 have HP2:=qh (HP1.o.trans (if_neg (fun h=>by rcases h with h|h|h;exact ho_type h;exact ho_delete h;exact ho_lookup h)))
 have f_type:=P.beqN ho_type;have f_delete:=P.beqN ho_delete;have f_lookup:=P.beqN ho_lookup
 clear HP1 ho_type ho_delete ho_lookup
 by_cases h3:word=[100,101,102,105,110,101]
 ·have HP:=qh (HP2.o.trans (if_pos h3));have f3:=P.beqB h3;clear h3
  go_enter Tryz.func70,Tryz.ntmps70
  go_wp2_with fail
  refine (b7a lo B l st sc d p n more _ HSM.o hm HT.o hl HE.o).mono ?_;exact zq11
 have HP3:=qh (HP2.o.trans (if_neg h3))
 have f3:=P.beqN h3
 clear HP2 h3
 by_cases h4:word=[114,101,118,101,114,115,101]
 ·have HP:=qh (HP3.o.trans (if_pos h4));have f4:=P.beqB h4;clear h4
  go_enter Tryz.func70,Tryz.ntmps70
  go_wp2_with fail
  refine (b5g lo B l st sc d p n more _ HSM.o hm HDC.o hl HE.o).mono ?_;exact zq11
 have HP4:=qh (HP3.o.trans (if_neg h4))
 have f4:=P.beqN h4
 clear HP3 h4
 by_cases h5:word=[106,111,105,110]
 ·have HP:=qh (HP4.o.trans (if_pos h5));have f5:=P.beqB h5;have HJ:=qh (P.c4w more);have hcl:=P.a6q more [32];clear h5
  go_enter Tryz.func70,Tryz.ntmps70
  go_wp2_with fail
  refine (L.b2f more 32 _ oZ HE.o).mono ?_;rintro e w1 ⟨rfl,k1,rfl⟩;obtain⟨x,y,q,hcut⟩:∃x y b,Lib.cut more [32]=(x,y,b):=⟨_,_,_,rfl⟩;rw [hcut]at HJ hcl⊢;simp only at HJ hcl⊢;clear hcut;have HB1:=qh (show Below w.heap.size w (w.drewN k1) from below_drewN bZ _);generalize w.drewN k1=w1 at *
  go_wp2_with fail
  refine (a6m x y _ oZ oZ).mono ?_;rintro e w2 ⟨rfl,hb⟩;have HB2:=bt HB1 hb;clear hb;go_wp2;go_ret2;exact⟨_,_,rfl,by rw [HP.o,←HJ.o];rfl,by rw [HP.o];exact HSM.o.below HB2.o,Below.chg HB2.o _⟩
 have HP5:=qh (HP4.o.trans (if_neg h5))
 have f5:=P.beqN h5
 clear HP4 h5
 by_cases h6:word=[108,111,111,115,101]
 ·have HP0:=qh (HP5.o.trans (if_pos h6));have f6:=P.beqB h6;clear h6
  go_enter Tryz.func70,Tryz.ntmps70
  go_wp2_with fail
  refine (a6y more _ oZ).mono ?_;rintro e w1 ⟨rfl,hb⟩;have HB1:=qh hb;clear hb;have HPL:=qh (show P.c6c more=if (P.loose more).2 then some (P.fmt ((P.loose more).1:Int)) else none from rfl);have HLS:=qh (P.a7f (t:=more));generalize P.loose more=q at *;obtain⟨k,q⟩:=q;simp only at HPL HLS⊢
  cases q
  ·have HP:=qh (show P.args (l,(st,sc)) word more=((l,(st,sc)),none) from by rw [HP0.o,HPL.o];rfl);go_wp2;go_ret2;exact HSM.o.keep (x:=[]) HB1.o HP.o
  ·have HST:=qh (HLS.o rfl)
   go_wp2_with fail
   refine (a1j k _ HST.o).mono ?_;rintro e w2 ⟨rfl,hb⟩;have HB2:=bt HB1 hb;clear hb;go_wp2;go_ret2;exact⟨_,_,rfl,by rw [HP0.o,HPL.o];rfl,by rw [HP0.o];exact HSM.o.below HB2.o,Below.chg HB2.o _⟩
 have HP:=qh (HP5.o.trans (if_neg h6))
 have f6:=P.beqN h6
 clear HP5 h6
 go_enter Tryz.func70,Tryz.ntmps70
 go_wp2
 go_ret2
 exact HSM.o.keep (x:=[]) bZ HP.o
end Go.Proofs.YtggfdnopminemaaGreatDoor
