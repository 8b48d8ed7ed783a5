/- Walks: strokes pressed one after another (reference). -/
import Derived.Test.YtggfdnopminemaaGreatDoorZt
import Derived.Test.YtggfdnopminemaaGreatDoorSesC3
namespace Go.Proofs.YtggfdnopminemaaGreatDoor
namespace P
theorem c6u {d:Dic} {t:Tr} {o:List Int} {j:Nat} (hj:j<o.length):b0q d t (o.drop j)=if (a5v d t o[j]).2 then b0q d (a5v d t o[j]).1.1 (o.drop (j+1)) else none:=by
 rw [List.drop_eq_getElem_cons hj];rfl
theorem c6i {s:Ses} {o:List Int} (h:b0q s.1 s.2 o=none):typed s o=(s,none):=by unfold typed;rw [h]
theorem c2i {s:Ses} {o:List Int} {t:Tr} (h:b0q s.1 s.2 o=some t):typed s o=((s.1,t),some (fmtE (least s.2.2 t.2))):=by unfold typed;rw [h]
theorem c2b {d:Dic} {t:Tr} {o:List Int}:b0q d t (o.drop o.length)=some t:=by rw [List.drop_length];rfl
end P
open Go Go.RowKit
set_option maxHeartbeats 8000000
set_option maxRecDepth 100000
theorem c4p (x:Int) (t:Str) (w:World) (he:P.a3o (x,t)=true) :
 Calls Tryz.prog 235 #[a1c (x,t),.bool true] w fun e w'=>e=.returned (.string (S (P.fmtE (x,t))))∧Below w.heap.size w w':=by
 have HOK:=qh he
 have hb0:=(Below.refl w.heap.size w).alloc lZ (.cells #[.int .i64 x,.string (S t)] 55)
 have HX:=qh (a0n.new (.int .i64 x) t 55 w)
 have HB:=qh hb0
 clear hb0 he
 unfold a1c
 go_enter Tryz.func235,Tryz.ntmps235
 go_upto_region 1 with fail
 generalize (World.alloc _ _)=v0 at *
 obtain⟨c0,c1,_⟩:=HX.o
 go_wp2_with fail
 refine (b5v x t _ HOK.o).mono ?_
 rintro e w1 ⟨rfl,hb⟩
 have HB1:=bt HB hb
 clear hb c0 c1
 go_wp2
 go_ret
 exact⟨rfl,HB1.o⟩
theorem d0p (s:Str) (ok:Bool) (w:World) :
 Calls Tryz.prog 173 #[.string (S s),.bool ok] w fun e w'=>e=.returned (.string (S (txtB (okB s ok))))∧w=w':=by
 cases ok
 ·go_enter Tryz.func173,Tryz.ntmps173
  go_wp2;go_ret;exact⟨rfl,rfl⟩
 ·go_enter Tryz.func173,Tryz.ntmps173
  go_wp2;go_ret;exact⟨rfl,rfl⟩
structure TySt (W0:World) (m b:Nat) (l:P.Dic) (us0:Value) (st0:List Int) (tv:Value) (t:P.Tr) (v:World):Prop where
 box:TBx b tv t.2 v
 str:IntR v tv t.1
 tra:P.trans l t=true
 chg:Chg (fun k=>k=b) W0 v
 own:(tv=us0∧t.1=st0)∨OwnK m v tv t.1
theorem TySt.below {W0:World} {m b:Nat} {l:P.Dic} {us0:Value} {st0:List Int} {tv:Value} {t:P.Tr} {v v':World} (h:TySt W0 m b l us0 st0 tv t v) (hb:Below v.heap.size v v'):TySt W0 m b l us0 st0 tv t v':=
 ⟨h.box.below hb,h.str.below hb,h.tra,h.chg.trans (Below.chg hb _),h.own.imp id fun k=>a0h k hb lZ⟩
theorem TySt.store {W0:World} {m b:Nat} {l:P.Dic} {us0:Value} {st0:List Int} {tv nv:Value} {t t':P.Tr} {v z:World} (h:TySt W0 m b l us0 st0 tv t v) (hb:Below v.heap.size v z) (hmz:m≤v.heap.size)
 (ho:OwnK v.heap.size z nv t'.1) (ht:P.trans l t'=true) (hl:t'.1.length≤2^45):TySt W0 m b l us0 st0 nv t' ((z.setCell ⟨b,0,none⟩ nv).setCell ⟨b,1,none⟩ (.string (S t'.2))):=by
 have hset:Chg (fun k=>k=b) z ((z.setCell ⟨b,0,none⟩ nv).setCell ⟨b,1,none⟩ (.string (S t'.2))):=((Chg.refl (fun k=>k=b) z).setCell (p:=⟨b,0,none⟩) rfl _).setCell (p:=⟨b,1,none⟩) rfl _
 have hbz:=h.box.1
 obtain⟨z1,c0,c1,f0,f1⟩:=h.box.below hb
 have ho2:OwnK v.heap.size ((z.setCell ⟨b,0,none⟩ nv).setCell ⟨b,1,none⟩ (.string (S t'.2))) nv t'.1:=a0j ho hset fun k hk e=>by
  have:=(World.ownsRow.lt ho k hk).1;have e2:k=b:=e;omega
 exact⟨⟨by simpa [World.setCell] using z1,by go_simp,by go_simp,by go_simp,by go_simp⟩,a1y ho2 hl,ht,(h.chg.trans (Below.chg hb _)).trans hset,.inr (a0y ho2 hmz)⟩
theorem TySt.fresh {W0 w V:World} {m b:Nat} {l:P.Dic} {us0:Value} {st0:List Int} {tv:Value} {t:P.Tr} {v:World} {X:Blk} (h:TySt W0 m b l us0 st0 tv t v) (hc:Chg X v V) (hX:∀k,X k→k<m) (hl:t.1.length≤2^30) (hw:w.heap.size≤m):b3y w V us0 st0 tv t.1:=by
 rcases h.own with h1|ho
 ·exact .inl h1
 ·exact .inr ⟨BetO m V.heap.size tv,a8b (a0j ho hc fun k hk hx=>by have h1:=(World.ownsRow.lt ho k hk).1;have h2:=hX k hx;omega) hl,fun k hk=>Nat.le_trans hw hk.1.1⟩
theorem c2w (u us ou:Value) (l:P.Dic) (st o:List Int) (sc d p:Str) (n:Int) (w:World) (hu:EntR w u l) (hus:IntR w us st) (ho:IntR w ou o) (hm:Small l) (ht:P.trans l (st,sc)=true) :
 Calls Tryz.prog 168 #[a1e u us sc d p n,ou] w (b1u u us (l,(st,sc)) (P.typed (l,(st,sc)) o) (d,p,n) w):=by
 have hu0:=hu;have hus0:=hus
 obtain⟨ad,cap,rfl,_,_⟩:=hu0
 obtain⟨sd,sap,rfl,_,_⟩:=hus0
 obtain⟨W0,hW0⟩:∃v,((w.alloc (a0d (.slice ad l.length cap) (.slice sd st.length sap) sc d p n)).alloc (a0d (.slice none 0 0) (.slice none 0 0) [] [] [] 0)).alloc (.cells #[(.slice sd st.length sap),.string (S sc)] 35)=v:=⟨_,rfl⟩
 have hb1:=((Below.refl w.heap.size w).alloc lZ (a0d (.slice ad l.length cap) (.slice sd st.length sap) sc d p n)).alloc sZ (a0d (.slice none 0 0) (.slice none 0 0) [] [] [] 0)
 have hb0:Below w.heap.size w W0:=by rw [←hW0];exact hb1.alloc (by simp;omega) _
 have hz0:W0.heap.size=w.heap.size+3:=by rw [←hW0];simp
 have hsx:SOut w.heap.size (.slice ad l.length cap) (.slice sd st.length sap) sc d p n W0:=by
  rw [←hW0];exact ((SOut.new (.slice ad l.length cap) (.slice sd st.length sap) sc d p n w).below (bZ.alloc lZ _)).below (bZ.alloc lZ _)
 have hsr:SOut (w.heap.size+1) (.slice none 0 0) (.slice none 0 0) [] [] [] 0 W0:=by
  rw [←hW0];have h:=(SOut.new (.slice none 0 0) (.slice none 0 0) [] [] [] 0 (w.alloc (a0d (.slice ad l.length cap) (.slice sd st.length sap) sc d p n))).below (bZ.alloc lZ (.cells #[(.slice sd st.length sap),.string (S sc)] 35))
  simpa using h
 have htb:TBx (w.heap.size+2) (.slice sd st.length sap) sc W0:=by
  rw [←hW0];have h:=TBx.new (.slice sd st.length sap) sc ((w.alloc (a0d (.slice ad l.length cap) (.slice sd st.length sap) sc d p n)).alloc (a0d (.slice none 0 0) (.slice none 0 0) [] [] [] 0))
  simpa using h
 have HU:=qh hu;have HUS:=qh hus;have HO:=qh ho
 have HX:=qh hsx;have HR:=qh hsr;have HB:=qh hb0
 have HT0:=qh (show TySt W0 (w.heap.size+3) (w.heap.size+2) l (.slice sd st.length sap) st (.slice sd st.length sap) (st,sc) W0 from⟨htb,hus.below hb0,ht,Chg.refl _ _,.inl ⟨rfl,rfl⟩⟩)
 have HSP:=qh (P.a1h ht)
 have HT0S:=qh ht
 clear hb1 hsx hsr htb hb0 ht hu hus
 obtain⟨od,oc,rfl,hol,_⟩:=ho
 go_enter Tryz.func168,Tryz.ntmps168
 go_upto_region 2 with fail
 try rw [hW0]
 clear hW0
 go_wp2
 go_loopw [7] (fun i wr=>∃(j:Nat) (t:P.Tr) (tv:Value),j≤o.length∧i=.int .i64 j∧P.b0q l (st,sc) o=P.b0q l t (o.drop j)∧TySt W0 (w.heap.size+3) (w.heap.size+2) l (.slice sd st.length sap) st tv t wr) (fun i _=>o.length-(intOf i).toNat)
 case atStart=>exact⟨0,(st,sc),(.slice sd st.length sap),Nat.zero_le _,rfl,by rw [List.drop_zero],HT0.o⟩
 case round=>
  obtain⟨j,⟨t1,t2⟩,tv,hj,rfl,hrun,hst⟩:=hrel;have HRUN:=qh hrun;have HT:=qh hst;obtain⟨ta,tc,rfl,_,_⟩:=id hst.str;have hs12:=P.a1h hst.tra;have HBW:=qh (Chg.a0k HB.o hst.chg HB.o.size (fun b h=>by have h9:b=w.heap.size+2:=h;omega));have HXW:=qh (HX.o.a0e hst.chg oZ);have HRW:=qh (HR.o.a0e hst.chg oZ);obtain⟨hs1,hs2⟩:=hs12;simp only at hs1 hs2;have hbz:=hst.box.1;have hz3:w.heap.size+3≤wr.heap.size:=by have h1:=hst.chg.size;omega
  clear hrun hst HT0
  by_cases hlt:j<o.length
  ·obtain⟨g,og,hga,hgs,c0⟩:=(HO.o.below HBW.o).at j hlt;subst hga;have HN1:=qh (HRUN.o.trans (P.c6u hlt));generalize o[j]=k at *;have i2:(j:Int)<(o.length:Int):=by omega
   obtain⟨nx,scr,en,et,ok,hrr⟩:∃nx scr en et ok,P.a5v l (t1,t2) k=(((nx,scr),(en,et)),ok):=⟨_,_,_,_,_,rfl⟩;have HRR:=qh hrr;clear hrr;have HLT:=qh (show w.heap.size<wr.heap.size∧w.heap.size+2<wr.heap.size∧g<wr.heap.size from⟨by omega,hbz,hgs⟩);have HRD:=qh (show RdS w.heap.size (w.heap.size+2) g (og+j) (.slice ad l.length cap) (.slice ta t1.length tc) t2 k wr.drew from RdS.step (B:=wr.heap.size) ⟨HXW.o.1.1,HT.o.box.2.1,HT.o.box.2.2.1,c0⟩ bZ.drew HLT.o);clear c0
   go_upto_region 5 with fail
   go_cut [8,9,10] (fun pp qq okv wx=>∃b1 b2 va vc,pp=.pointer (some ⟨b1,0,none⟩)∧qq=.pointer (some ⟨b2,0,none⟩)∧okv=.bool ok∧a0n b1 (.slice va nx.length vc) scr wx∧a0n b2 (.int .i64 en) et wx∧OwnK wr.heap.size wx (.slice va nx.length vc) nx∧Below wr.heap.size wr wx∧wr.heap.size≤b1∧wr.heap.size≤b2)
   case first=>
    have HBW0:=qh (show Below wr.heap.size wr wr.drew from bZ.drew);refine wp_region_held_drew (S:=RdS w.heap.size (w.heap.size+2) g (og+j) (.slice ad l.length cap) (.slice ta t1.length tc) t2 k) kZ HRD.o (fun hS0=>?_);generalize wr.drew=v0 at *;refine tk1 0 hS0 ?_;refine tk1 1 hS0 ?_;refine tk1 2 hS0 ?_;refine tk1 3 hS0 ?_;refine tk1 4 hS0 ?_;refine tk1 5 (v:=.pointer (some ⟨g,og+j,none⟩)) hS0 ?_;refine tk1 6 hS0 ?_;refine wpAnyH_ready (rs:=[7,12,13]) kZ sZ ?_;refine AllReadyH.cons rfl (fun K hK=>?_) (AllReadyH.cons rfl (fun K hK=>?_) (AllReadyH.cons rfl (fun K hK=>?_) AllReadyH.nil))
    ·skip;go_simp;refine (a5p _ _ l t1 t2 k _ (HU.o.below (HBW.o.trans (HBW0.o.mono HBW.o.size))) (HT.o.str.below HBW0.o) hm oZ oZ).mono ?_;rintro e v1 ⟨nv,rfl,ho,hb⟩;rw [HRR.o]at ho⊢;simp only at ho⊢;unfold a1c;obtain⟨va,vc,rfl⟩:=a0i ho;refine hK.out _ _ (hS0.step (hb.mono HBW0.o.size) HLT.o) (fun hS2=>?_);clear hK K;have HBW3:=bt HBW0 hb;have HO_4:=qh (a0y ho HBW0.o.size);clear ho hb
     try simp only []
     refine tk1 8 hS2 ?_;refine tk1 9 hS2 ?_;refine tk1 10 hS2 ?_;refine tk1 11 hS2 ?_;refine wpAnyH_ready (rs:=[12,13]) kZ sZ ?_;refine AllReadyH.cons rfl (fun K hK=>?_) (AllReadyH.cons rfl (fun K hK=>?_) AllReadyH.nil)
     ·skip;go_simp;have hb:=(Below.refl v1.heap.size v1).alloc lZ (.cells #[.slice none 0 0,.string (S [])] 35);have zb7:v1.heap.size<(v1.alloc (.cells #[.slice none 0 0,.string (S [])] 35)).heap.size:=by simp
      have HAP1:=qh (show (.slice va nx.length vc:Value).ownBlock≠some (v1.heap.size) from fun k=>by have h1:=(World.ownsRow.lt HO_4.o _ k).2;omega);refine hK.out _ _ (hS2.step (hb.mono HBW3.o.size) HLT.o) (fun hS6=>?_);clear hK K;have HBW8:=bt HBW3 hb;have HO_9:=qh (a0h HO_4.o hb lZ);have BX1_10:=qh (And.intro (TBx.new (.slice none 0 0) [] v1) HBW3.o.size);clear hb;generalize v1.alloc (.cells #[.slice none 0 0,.string (S [])] 35)=v5 at *
      try simp only [qA,qB,qC,Act.put,qD,qE,qF]
      refine trd 13 fun K hK=>?_;go_simp;have hb:=(Below.refl v5.heap.size v5).alloc lZ (.cells #[.int .i64 0,.string (S [])] 55);have zb13:v5.heap.size<(v5.alloc (.cells #[.int .i64 0,.string (S [])] 55)).heap.size:=by simp
      have zc14:=BX1_10.o.1.1;have HAP2:=qh (show (.slice va nx.length vc:Value).ownBlock≠some (v5.heap.size) from fun k=>by have h1:=(World.ownsRow.lt HO_9.o _ k).2;omega);refine hK.out _ _ (hS6.step (hb.mono HBW8.o.size) HLT.o) (fun hS12=>?_);clear hK K;have HBW15:=bt HBW8 hb;have BX1_16:=qh (And.intro (BX1_10.o.1.below hb) BX1_10.o.2);have HO_17:=qh (a0h HO_9.o hb lZ);have BX2_18:=qh (And.intro (EBx.new v5) HBW8.o.size);clear hb;generalize v5.alloc (.cells #[.int .i64 0,.string (S [])] 55)=v11 at *
      try simp only [qA,qB,qC,Act.put,qD,qE,qF]
      refine trd 14 fun K hK=>?_;have hw1:=BX1_16.o.2;obtain⟨zb,cb0,cb1,fb0,fb1⟩:=BX1_16.o.1;go_simp;obtain⟨v19,hv19⟩:∃y,((v11.setCell ⟨v1.heap.size,0,none⟩ (.slice va nx.length vc)).setCell ⟨v1.heap.size,1,none⟩ (.string (S scr)))=y:=⟨_,rfl⟩;have hcg:Chg (fun k=>k=v1.heap.size) v11 v19:=by rw [←hv19];exact ((Chg.refl (fun k=>k=v1.heap.size) v11).setCell (p:=⟨v1.heap.size,0,none⟩) rfl _).setCell (p:=⟨v1.heap.size,1,none⟩) rfl _
      have hbox1:a0n v1.heap.size (.slice va nx.length vc) scr v19:=by rw [←hv19];exact a0n.set2 cb0 cb1 zb
      have hbw1:Below wr.heap.size wr v19:=Chg.a0k HBW15.o hcg HBW15.o.size (fun k h=>by have h9:k=v1.heap.size:=h;omega);have hst:RdS w.heap.size (w.heap.size+2) g (og+j) (.slice ad l.length cap) (.slice ta t1.length tc) t2 k v19:=hS12.step (B:=wr.heap.size) (hcg.below HBW15.o.size (fun k h=>by have h9:k=v1.heap.size:=h;omega)) HLT.o;refine hK.out _ _ (by rw [hv19];exact hst) (fun hS20=>?_);clear hK K;rw [hv19]at hS20⊢
      try simp only [qA,qB,qC,Act.put,qD,qE,qF]
      have HO_21:=qh (a0j HO_17.o hcg (fun k hk h=>HAP1.o (by have h9:k=v1.heap.size:=h;rw [hk,h9])));have BX2_z:=qh (And.intro (BX2_18.o.1.a0e hcg oZ) BX2_18.o.2);have HBW22:=qh hbw1;clear hcg zb cb0 cb1 fb0 fb1 hst;refine trd 15 fun K hK=>?_;have hw2:=BX2_z.o.2;obtain⟨zb,cb0,cb1,fb0,fb1⟩:=BX2_z.o.1;go_simp;obtain⟨v23,hv23⟩:∃y,((v19.setCell ⟨v5.heap.size,0,none⟩ (.int .i64 en)).setCell ⟨v5.heap.size,1,none⟩ (.string (S et)))=y:=⟨_,rfl⟩;have hcg:Chg (fun k=>k=v5.heap.size) v19 v23:=by rw [←hv23];exact ((Chg.refl (fun k=>k=v5.heap.size) v19).setCell (p:=⟨v5.heap.size,0,none⟩) rfl _).setCell (p:=⟨v5.heap.size,1,none⟩) rfl _
      have hbox2:a0n v5.heap.size (.int .i64 en) et v23:=by rw [←hv23];exact a0n.set2 cb0 cb1 zb
      have hbw2:Below wr.heap.size wr v23:=Chg.a0k HBW22.o hcg HBW22.o.size (fun k h=>by have h9:k=v5.heap.size:=h;omega);have hst:RdS w.heap.size (w.heap.size+2) g (og+j) (.slice ad l.length cap) (.slice ta t1.length tc) t2 k v23:=hS20.step (B:=wr.heap.size) (hcg.below HBW22.o.size (fun k h=>by have h9:k=v5.heap.size:=h;omega)) HLT.o;refine hK.out _ _ (by rw [hv23];exact hst) (fun hS24=>?_);clear hK K;rw [hv23]at hS24⊢
      try simp only [qA,qB,qC,Act.put,qD,qE,qF]
      have HO_25:=qh (a0j HO_21.o hcg (fun k hk h=>HAP2.o (by have h9:k=v5.heap.size:=h;rw [hk,h9])));have hbox1z:=hbox1.a0e hcg oZ;have HBW26:=qh hbw2;clear hcg zb cb0 cb1 fb0 fb1 hst;refine tk1 16 hS24 ?_;exact zq125
     ·skip;go_simp;have hb:=(Below.refl v1.heap.size v1).alloc lZ (.cells #[.int .i64 0,.string (S [])] 55);have zb29:v1.heap.size<(v1.alloc (.cells #[.int .i64 0,.string (S [])] 55)).heap.size:=by simp
      have HAP2:=qh (show (.slice va nx.length vc:Value).ownBlock≠some (v1.heap.size) from fun k=>by have h1:=(World.ownsRow.lt HO_4.o _ k).2;omega);refine hK.out _ _ (hS2.step (hb.mono HBW3.o.size) HLT.o) (fun hS28=>?_);clear hK K;have HBW30:=bt HBW3 hb;have HO_31:=qh (a0h HO_4.o hb lZ);have BX2_32:=qh (And.intro (EBx.new v1) HBW3.o.size);clear hb;generalize v1.alloc (.cells #[.int .i64 0,.string (S [])] 55)=v27 at *
      try simp only [qA,qB,qC,Act.put,qD,qE,qF]
      refine trd 12 fun K hK=>?_;go_simp;have hb:=(Below.refl v27.heap.size v27).alloc lZ (.cells #[.slice none 0 0,.string (S [])] 35);have zb35:v27.heap.size<(v27.alloc (.cells #[.slice none 0 0,.string (S [])] 35)).heap.size:=by simp
      have zc36:=BX2_32.o.1.1;have HAP1:=qh (show (.slice va nx.length vc:Value).ownBlock≠some (v27.heap.size) from fun k=>by have h1:=(World.ownsRow.lt HO_31.o _ k).2;omega);refine hK.out _ _ (hS28.step (hb.mono HBW30.o.size) HLT.o) (fun hS34=>?_);clear hK K;have HBW37:=bt HBW30 hb;have BX2_38:=qh (And.intro (BX2_32.o.1.below hb) BX2_32.o.2);have HO_39:=qh (a0h HO_31.o hb lZ);have BX1_40:=qh (And.intro (TBx.new (.slice none 0 0) [] v27) HBW30.o.size);clear hb;generalize v27.alloc (.cells #[.slice none 0 0,.string (S [])] 35)=v33 at *
      try simp only [qA,qB,qC,Act.put,qD,qE,qF]
      refine trd 14 fun K hK=>?_;have hw1:=BX1_40.o.2;obtain⟨zb,cb0,cb1,fb0,fb1⟩:=BX1_40.o.1;go_simp;obtain⟨v41,hv41⟩:∃y,((v33.setCell ⟨v27.heap.size,0,none⟩ (.slice va nx.length vc)).setCell ⟨v27.heap.size,1,none⟩ (.string (S scr)))=y:=⟨_,rfl⟩;have hcg:Chg (fun k=>k=v27.heap.size) v33 v41:=by rw [←hv41];exact ((Chg.refl (fun k=>k=v27.heap.size) v33).setCell (p:=⟨v27.heap.size,0,none⟩) rfl _).setCell (p:=⟨v27.heap.size,1,none⟩) rfl _
      have hbox1:a0n v27.heap.size (.slice va nx.length vc) scr v41:=by rw [←hv41];exact a0n.set2 cb0 cb1 zb
      have hbw1:Below wr.heap.size wr v41:=Chg.a0k HBW37.o hcg HBW37.o.size (fun k h=>by have h9:k=v27.heap.size:=h;omega);have hst:RdS w.heap.size (w.heap.size+2) g (og+j) (.slice ad l.length cap) (.slice ta t1.length tc) t2 k v41:=hS34.step (B:=wr.heap.size) (hcg.below HBW37.o.size (fun k h=>by have h9:k=v27.heap.size:=h;omega)) HLT.o;refine hK.out _ _ (by rw [hv41];exact hst) (fun hS42=>?_);clear hK K;rw [hv41]at hS42⊢
      try simp only [qA,qB,qC,Act.put,qD,qE,qF]
      have HO_43:=qh (a0j HO_39.o hcg (fun k hk h=>HAP1.o (by have h9:k=v27.heap.size:=h;rw [hk,h9])));have BX2_z:=qh (And.intro (BX2_38.o.1.a0e hcg oZ) BX2_38.o.2);have HBW44:=qh hbw1;clear hcg zb cb0 cb1 fb0 fb1 hst;refine trd 15 fun K hK=>?_;have hw2:=BX2_z.o.2;obtain⟨zb,cb0,cb1,fb0,fb1⟩:=BX2_z.o.1;go_simp;obtain⟨v45,hv45⟩:∃y,((v41.setCell ⟨v1.heap.size,0,none⟩ (.int .i64 en)).setCell ⟨v1.heap.size,1,none⟩ (.string (S et)))=y:=⟨_,rfl⟩;have hcg:Chg (fun k=>k=v1.heap.size) v41 v45:=by rw [←hv45];exact ((Chg.refl (fun k=>k=v1.heap.size) v41).setCell (p:=⟨v1.heap.size,0,none⟩) rfl _).setCell (p:=⟨v1.heap.size,1,none⟩) rfl _
      have hbox2:a0n v1.heap.size (.int .i64 en) et v45:=by rw [←hv45];exact a0n.set2 cb0 cb1 zb
      have hbw2:Below wr.heap.size wr v45:=Chg.a0k HBW44.o hcg HBW44.o.size (fun k h=>by have h9:k=v1.heap.size:=h;omega);have hst:RdS w.heap.size (w.heap.size+2) g (og+j) (.slice ad l.length cap) (.slice ta t1.length tc) t2 k v45:=hS42.step (B:=wr.heap.size) (hcg.below HBW44.o.size (fun k h=>by have h9:k=v1.heap.size:=h;omega)) HLT.o;refine hK.out _ _ (by rw [hv45];exact hst) (fun hS46=>?_);clear hK K;rw [hv45]at hS46⊢
      try simp only [qA,qB,qC,Act.put,qD,qE,qF]
      have HO_47:=qh (a0j HO_43.o hcg (fun k hk h=>HAP2.o (by have h9:k=v1.heap.size:=h;rw [hk,h9])));have hbox1z:=hbox1.a0e hcg oZ;have HBW48:=qh hbw2;clear hcg zb cb0 cb1 fb0 fb1 hst;refine tk1 16 hS46 ?_;exact zq121
    ·skip;go_simp;have hb:=(Below.refl v0.heap.size v0).alloc lZ (.cells #[.slice none 0 0,.string (S [])] 35);have zb51:v0.heap.size<(v0.alloc (.cells #[.slice none 0 0,.string (S [])] 35)).heap.size:=by simp
     refine hK.out _ _ (hS0.step (hb.mono HBW0.o.size) HLT.o) (fun hS50=>?_);clear hK K;have HBW52:=bt HBW0 hb;have BX1_53:=qh (And.intro (TBx.new (.slice none 0 0) [] v0) HBW0.o.size);clear hb;generalize v0.alloc (.cells #[.slice none 0 0,.string (S [])] 35)=v49 at *
     try simp only [qA,qB,qC,Act.put,qD,qE,qF]
     refine wpAnyH_ready (rs:=[7,13]) kZ sZ ?_;refine AllReadyH.cons rfl (fun K hK=>?_) (AllReadyH.cons rfl (fun K hK=>?_) AllReadyH.nil)
     ·skip;go_simp;refine (a5p _ _ l t1 t2 k _ (HU.o.below (HBW.o.trans (HBW52.o.mono HBW.o.size))) (HT.o.str.below HBW52.o) hm oZ oZ).mono ?_;rintro e v54 ⟨nv,rfl,ho,hb⟩;rw [HRR.o]at ho⊢;simp only at ho⊢;unfold a1c;obtain⟨va,vc,rfl⟩:=a0i ho;have HAP1:=qh (show (.slice va nx.length vc:Value).ownBlock≠some (v0.heap.size) from fun k=>by have h1:=(World.ownsRow.lt ho _ k).1;have h2:=BX1_53.o.1.1;omega);refine hK.out _ _ (hS50.step (hb.mono HBW52.o.size) HLT.o) (fun hS55=>?_);clear hK K;have HBW56:=bt HBW52 hb;have BX1_57:=qh (And.intro (BX1_53.o.1.below hb) BX1_53.o.2);have HO_58:=qh (a0y ho HBW52.o.size);clear ho hb
      try simp only []
      refine tk1 8 hS55 ?_;refine tk1 9 hS55 ?_;refine tk1 10 hS55 ?_;refine tk1 11 hS55 ?_;refine trd 13 fun K hK=>?_;go_simp;have hb:=(Below.refl v54.heap.size v54).alloc lZ (.cells #[.int .i64 0,.string (S [])] 55);have zb61:v54.heap.size<(v54.alloc (.cells #[.int .i64 0,.string (S [])] 55)).heap.size:=by simp
      have zc62:=BX1_57.o.1.1;have HAP2:=qh (show (.slice va nx.length vc:Value).ownBlock≠some (v54.heap.size) from fun k=>by have h1:=(World.ownsRow.lt HO_58.o _ k).2;omega);refine hK.out _ _ (hS55.step (hb.mono HBW56.o.size) HLT.o) (fun hS60=>?_);clear hK K;have HBW63:=bt HBW56 hb;have BX1_64:=qh (And.intro (BX1_57.o.1.below hb) BX1_57.o.2);have HO_65:=qh (a0h HO_58.o hb lZ);have BX2_66:=qh (And.intro (EBx.new v54) HBW56.o.size);clear hb;generalize v54.alloc (.cells #[.int .i64 0,.string (S [])] 55)=v59 at *
      try simp only [qA,qB,qC,Act.put,qD,qE,qF]
      refine trd 14 fun K hK=>?_;have hw1:=BX1_64.o.2;obtain⟨zb,cb0,cb1,fb0,fb1⟩:=BX1_64.o.1;go_simp;obtain⟨v67,hv67⟩:∃y,((v59.setCell ⟨v0.heap.size,0,none⟩ (.slice va nx.length vc)).setCell ⟨v0.heap.size,1,none⟩ (.string (S scr)))=y:=⟨_,rfl⟩;have hcg:Chg (fun k=>k=v0.heap.size) v59 v67:=by rw [←hv67];exact ((Chg.refl (fun k=>k=v0.heap.size) v59).setCell (p:=⟨v0.heap.size,0,none⟩) rfl _).setCell (p:=⟨v0.heap.size,1,none⟩) rfl _
      have hbox1:a0n v0.heap.size (.slice va nx.length vc) scr v67:=by rw [←hv67];exact a0n.set2 cb0 cb1 zb
      have hbw1:Below wr.heap.size wr v67:=Chg.a0k HBW63.o hcg HBW63.o.size (fun k h=>by have h9:k=v0.heap.size:=h;omega);have hst:RdS w.heap.size (w.heap.size+2) g (og+j) (.slice ad l.length cap) (.slice ta t1.length tc) t2 k v67:=hS60.step (B:=wr.heap.size) (hcg.below HBW63.o.size (fun k h=>by have h9:k=v0.heap.size:=h;omega)) HLT.o;refine hK.out _ _ (by rw [hv67];exact hst) (fun hS68=>?_);clear hK K;rw [hv67]at hS68⊢
      try simp only [qA,qB,qC,Act.put,qD,qE,qF]
      have HO_69:=qh (a0j HO_65.o hcg (fun k hk h=>HAP1.o (by have h9:k=v0.heap.size:=h;rw [hk,h9])));have BX2_z:=qh (And.intro (BX2_66.o.1.a0e hcg oZ) BX2_66.o.2);have HBW70:=qh hbw1;clear hcg zb cb0 cb1 fb0 fb1 hst;refine trd 15 fun K hK=>?_;have hw2:=BX2_z.o.2;obtain⟨zb,cb0,cb1,fb0,fb1⟩:=BX2_z.o.1;go_simp;obtain⟨v71,hv71⟩:∃y,((v67.setCell ⟨v54.heap.size,0,none⟩ (.int .i64 en)).setCell ⟨v54.heap.size,1,none⟩ (.string (S et)))=y:=⟨_,rfl⟩;have hcg:Chg (fun k=>k=v54.heap.size) v67 v71:=by rw [←hv71];exact ((Chg.refl (fun k=>k=v54.heap.size) v67).setCell (p:=⟨v54.heap.size,0,none⟩) rfl _).setCell (p:=⟨v54.heap.size,1,none⟩) rfl _
      have hbox2:a0n v54.heap.size (.int .i64 en) et v71:=by rw [←hv71];exact a0n.set2 cb0 cb1 zb
      have hbw2:Below wr.heap.size wr v71:=Chg.a0k HBW70.o hcg HBW70.o.size (fun k h=>by have h9:k=v54.heap.size:=h;omega);have hst:RdS w.heap.size (w.heap.size+2) g (og+j) (.slice ad l.length cap) (.slice ta t1.length tc) t2 k v71:=hS68.step (B:=wr.heap.size) (hcg.below HBW70.o.size (fun k h=>by have h9:k=v54.heap.size:=h;omega)) HLT.o;refine hK.out _ _ (by rw [hv71];exact hst) (fun hS72=>?_);clear hK K;rw [hv71]at hS72⊢
      try simp only [qA,qB,qC,Act.put,qD,qE,qF]
      have HO_73:=qh (a0j HO_69.o hcg (fun k hk h=>HAP2.o (by have h9:k=v54.heap.size:=h;rw [hk,h9])));have hbox1z:=hbox1.a0e hcg oZ;have HBW74:=qh hbw2;clear hcg zb cb0 cb1 fb0 fb1 hst;refine tk1 16 hS72 ?_;exact zq122
     ·skip;go_simp;have hb:=(Below.refl v49.heap.size v49).alloc lZ (.cells #[.int .i64 0,.string (S [])] 55);have zb77:v49.heap.size<(v49.alloc (.cells #[.int .i64 0,.string (S [])] 55)).heap.size:=by simp
      have zc78:=BX1_53.o.1.1;refine hK.out _ _ (hS50.step (hb.mono HBW52.o.size) HLT.o) (fun hS76=>?_);clear hK K;have HBW79:=bt HBW52 hb;have BX1_80:=qh (And.intro (BX1_53.o.1.below hb) BX1_53.o.2);have BX2_81:=qh (And.intro (EBx.new v49) HBW52.o.size);clear hb;generalize v49.alloc (.cells #[.int .i64 0,.string (S [])] 55)=v75 at *
      try simp only [qA,qB,qC,Act.put,qD,qE,qF]
      refine trd 7 fun K hK=>?_;go_simp;refine (a5p _ _ l t1 t2 k _ (HU.o.below (HBW.o.trans (HBW79.o.mono HBW.o.size))) (HT.o.str.below HBW79.o) hm oZ oZ).mono ?_;rintro e v82 ⟨nv,rfl,ho,hb⟩;rw [HRR.o]at ho⊢;simp only at ho⊢;unfold a1c;obtain⟨va,vc,rfl⟩:=a0i ho;have HAP1:=qh (show (.slice va nx.length vc:Value).ownBlock≠some (v0.heap.size) from fun k=>by have h1:=(World.ownsRow.lt ho _ k).1;have h2:=BX1_80.o.1.1;omega);have HAP2:=qh (show (.slice va nx.length vc:Value).ownBlock≠some (v49.heap.size) from fun k=>by have h1:=(World.ownsRow.lt ho _ k).1;have h2:=BX2_81.o.1.1;omega);refine hK.out _ _ (hS76.step (hb.mono HBW79.o.size) HLT.o) (fun hS83=>?_);clear hK K;have HBW84:=bt HBW79 hb;have BX1_85:=qh (And.intro (BX1_80.o.1.below hb) BX1_80.o.2);have BX2_86:=qh (And.intro (BX2_81.o.1.below hb) BX2_81.o.2);have HO_87:=qh (a0y ho HBW79.o.size);clear ho hb
      try simp only []
      refine tk1 8 hS83 ?_;refine tk1 9 hS83 ?_;refine tk1 10 hS83 ?_;refine tk1 11 hS83 ?_;refine trd 14 fun K hK=>?_;have hw1:=BX1_85.o.2;obtain⟨zb,cb0,cb1,fb0,fb1⟩:=BX1_85.o.1;go_simp;obtain⟨v88,hv88⟩:∃y,((v82.setCell ⟨v0.heap.size,0,none⟩ (.slice va nx.length vc)).setCell ⟨v0.heap.size,1,none⟩ (.string (S scr)))=y:=⟨_,rfl⟩;have hcg:Chg (fun k=>k=v0.heap.size) v82 v88:=by rw [←hv88];exact ((Chg.refl (fun k=>k=v0.heap.size) v82).setCell (p:=⟨v0.heap.size,0,none⟩) rfl _).setCell (p:=⟨v0.heap.size,1,none⟩) rfl _
      have hbox1:a0n v0.heap.size (.slice va nx.length vc) scr v88:=by rw [←hv88];exact a0n.set2 cb0 cb1 zb
      have hbw1:Below wr.heap.size wr v88:=Chg.a0k HBW84.o hcg HBW84.o.size (fun k h=>by have h9:k=v0.heap.size:=h;omega);have hst:RdS w.heap.size (w.heap.size+2) g (og+j) (.slice ad l.length cap) (.slice ta t1.length tc) t2 k v88:=hS83.step (B:=wr.heap.size) (hcg.below HBW84.o.size (fun k h=>by have h9:k=v0.heap.size:=h;omega)) HLT.o;refine hK.out _ _ (by rw [hv88];exact hst) (fun hS89=>?_);clear hK K;rw [hv88]at hS89⊢
      try simp only [qA,qB,qC,Act.put,qD,qE,qF]
      have HO_90:=qh (a0j HO_87.o hcg (fun k hk h=>HAP1.o (by have h9:k=v0.heap.size:=h;rw [hk,h9])));have BX2_z:=qh (And.intro (BX2_86.o.1.a0e hcg oZ) BX2_86.o.2);have HBW91:=qh hbw1;clear hcg zb cb0 cb1 fb0 fb1 hst;refine trd 15 fun K hK=>?_;have hw2:=BX2_z.o.2;obtain⟨zb,cb0,cb1,fb0,fb1⟩:=BX2_z.o.1;go_simp;obtain⟨v92,hv92⟩:∃y,((v88.setCell ⟨v49.heap.size,0,none⟩ (.int .i64 en)).setCell ⟨v49.heap.size,1,none⟩ (.string (S et)))=y:=⟨_,rfl⟩;have hcg:Chg (fun k=>k=v49.heap.size) v88 v92:=by rw [←hv92];exact ((Chg.refl (fun k=>k=v49.heap.size) v88).setCell (p:=⟨v49.heap.size,0,none⟩) rfl _).setCell (p:=⟨v49.heap.size,1,none⟩) rfl _
      have hbox2:a0n v49.heap.size (.int .i64 en) et v92:=by rw [←hv92];exact a0n.set2 cb0 cb1 zb
      have hbw2:Below wr.heap.size wr v92:=Chg.a0k HBW91.o hcg HBW91.o.size (fun k h=>by have h9:k=v49.heap.size:=h;omega);have hst:RdS w.heap.size (w.heap.size+2) g (og+j) (.slice ad l.length cap) (.slice ta t1.length tc) t2 k v92:=hS89.step (B:=wr.heap.size) (hcg.below HBW91.o.size (fun k h=>by have h9:k=v49.heap.size:=h;omega)) HLT.o;refine hK.out _ _ (by rw [hv92];exact hst) (fun hS93=>?_);clear hK K;rw [hv92]at hS93⊢
      try simp only [qA,qB,qC,Act.put,qD,qE,qF]
      have HO_94:=qh (a0j HO_90.o hcg (fun k hk h=>HAP2.o (by have h9:k=v49.heap.size:=h;rw [hk,h9])));have hbox1z:=hbox1.a0e hcg oZ;have HBW95:=qh hbw2;clear hcg zb cb0 cb1 fb0 fb1 hst;refine tk1 16 hS93 ?_;exact zq123
    ·skip;go_simp;have hb:=(Below.refl v0.heap.size v0).alloc lZ (.cells #[.int .i64 0,.string (S [])] 55);have zb98:v0.heap.size<(v0.alloc (.cells #[.int .i64 0,.string (S [])] 55)).heap.size:=by simp
     refine hK.out _ _ (hS0.step (hb.mono HBW0.o.size) HLT.o) (fun hS97=>?_);clear hK K;have HBW99:=bt HBW0 hb;have BX2_100:=qh (And.intro (EBx.new v0) HBW0.o.size);clear hb;generalize v0.alloc (.cells #[.int .i64 0,.string (S [])] 55)=v96 at *
     try simp only [qA,qB,qC,Act.put,qD,qE,qF]
     refine wpAnyH_ready (rs:=[7,12]) kZ sZ ?_;refine AllReadyH.cons rfl (fun K hK=>?_) (AllReadyH.cons rfl (fun K hK=>?_) AllReadyH.nil)
     ·skip;go_simp;refine (a5p _ _ l t1 t2 k _ (HU.o.below (HBW.o.trans (HBW99.o.mono HBW.o.size))) (HT.o.str.below HBW99.o) hm oZ oZ).mono ?_;rintro e v101 ⟨nv,rfl,ho,hb⟩;rw [HRR.o]at ho⊢;simp only at ho⊢;unfold a1c;obtain⟨va,vc,rfl⟩:=a0i ho;have HAP2:=qh (show (.slice va nx.length vc:Value).ownBlock≠some (v0.heap.size) from fun k=>by have h1:=(World.ownsRow.lt ho _ k).1;have h2:=BX2_100.o.1.1;omega);refine hK.out _ _ (hS97.step (hb.mono HBW99.o.size) HLT.o) (fun hS102=>?_);clear hK K;have HBW103:=bt HBW99 hb;have BX2_104:=qh (And.intro (BX2_100.o.1.below hb) BX2_100.o.2);have HO_105:=qh (a0y ho HBW99.o.size);clear ho hb
      try simp only []
      refine tk1 8 hS102 ?_;refine tk1 9 hS102 ?_;refine tk1 10 hS102 ?_;refine tk1 11 hS102 ?_;refine trd 12 fun K hK=>?_;go_simp;have hb:=(Below.refl v101.heap.size v101).alloc lZ (.cells #[.slice none 0 0,.string (S [])] 35);have zb108:v101.heap.size<(v101.alloc (.cells #[.slice none 0 0,.string (S [])] 35)).heap.size:=by simp
      have zc109:=BX2_104.o.1.1;have HAP1:=qh (show (.slice va nx.length vc:Value).ownBlock≠some (v101.heap.size) from fun k=>by have h1:=(World.ownsRow.lt HO_105.o _ k).2;omega);refine hK.out _ _ (hS102.step (hb.mono HBW103.o.size) HLT.o) (fun hS107=>?_);clear hK K;have HBW110:=bt HBW103 hb;have BX2_111:=qh (And.intro (BX2_104.o.1.below hb) BX2_104.o.2);have HO_112:=qh (a0h HO_105.o hb lZ);have BX1_113:=qh (And.intro (TBx.new (.slice none 0 0) [] v101) HBW103.o.size);clear hb;generalize v101.alloc (.cells #[.slice none 0 0,.string (S [])] 35)=v106 at *
      try simp only [qA,qB,qC,Act.put,qD,qE,qF]
      refine trd 14 fun K hK=>?_;have hw1:=BX1_113.o.2;obtain⟨zb,cb0,cb1,fb0,fb1⟩:=BX1_113.o.1;go_simp;obtain⟨v114,hv114⟩:∃y,((v106.setCell ⟨v101.heap.size,0,none⟩ (.slice va nx.length vc)).setCell ⟨v101.heap.size,1,none⟩ (.string (S scr)))=y:=⟨_,rfl⟩;have hcg:Chg (fun k=>k=v101.heap.size) v106 v114:=by rw [←hv114];exact ((Chg.refl (fun k=>k=v101.heap.size) v106).setCell (p:=⟨v101.heap.size,0,none⟩) rfl _).setCell (p:=⟨v101.heap.size,1,none⟩) rfl _
      have hbox1:a0n v101.heap.size (.slice va nx.length vc) scr v114:=by rw [←hv114];exact a0n.set2 cb0 cb1 zb
      have hbw1:Below wr.heap.size wr v114:=Chg.a0k HBW110.o hcg HBW110.o.size (fun k h=>by have h9:k=v101.heap.size:=h;omega);have hst:RdS w.heap.size (w.heap.size+2) g (og+j) (.slice ad l.length cap) (.slice ta t1.length tc) t2 k v114:=hS107.step (B:=wr.heap.size) (hcg.below HBW110.o.size (fun k h=>by have h9:k=v101.heap.size:=h;omega)) HLT.o;refine hK.out _ _ (by rw [hv114];exact hst) (fun hS115=>?_);clear hK K;rw [hv114]at hS115⊢
      try simp only [qA,qB,qC,Act.put,qD,qE,qF]
      have HO_116:=qh (a0j HO_112.o hcg (fun k hk h=>HAP1.o (by have h9:k=v101.heap.size:=h;rw [hk,h9])));have BX2_z:=qh (And.intro (BX2_111.o.1.a0e hcg oZ) BX2_111.o.2);have HBW117:=qh hbw1;clear hcg zb cb0 cb1 fb0 fb1 hst;refine trd 15 fun K hK=>?_;have hw2:=BX2_z.o.2;obtain⟨zb,cb0,cb1,fb0,fb1⟩:=BX2_z.o.1;go_simp;obtain⟨v118,hv118⟩:∃y,((v114.setCell ⟨v0.heap.size,0,none⟩ (.int .i64 en)).setCell ⟨v0.heap.size,1,none⟩ (.string (S et)))=y:=⟨_,rfl⟩;have hcg:Chg (fun k=>k=v0.heap.size) v114 v118:=by rw [←hv118];exact ((Chg.refl (fun k=>k=v0.heap.size) v114).setCell (p:=⟨v0.heap.size,0,none⟩) rfl _).setCell (p:=⟨v0.heap.size,1,none⟩) rfl _
      have hbox2:a0n v0.heap.size (.int .i64 en) et v118:=by rw [←hv118];exact a0n.set2 cb0 cb1 zb
      have hbw2:Below wr.heap.size wr v118:=Chg.a0k HBW117.o hcg HBW117.o.size (fun k h=>by have h9:k=v0.heap.size:=h;omega);have hst:RdS w.heap.size (w.heap.size+2) g (og+j) (.slice ad l.length cap) (.slice ta t1.length tc) t2 k v118:=hS115.step (B:=wr.heap.size) (hcg.below HBW117.o.size (fun k h=>by have h9:k=v0.heap.size:=h;omega)) HLT.o;refine hK.out _ _ (by rw [hv118];exact hst) (fun hS119=>?_);clear hK K;rw [hv118]at hS119⊢
      try simp only [qA,qB,qC,Act.put,qD,qE,qF]
      have HO_120:=qh (a0j HO_116.o hcg (fun k hk h=>HAP2.o (by have h9:k=v0.heap.size:=h;rw [hk,h9])));have hbox1z:=hbox1.a0e hcg oZ;have HBW121:=qh hbw2;clear hcg zb cb0 cb1 fb0 fb1 hst;refine tk1 16 hS119 ?_;exact zq119
     ·skip;go_simp;have hb:=(Below.refl v96.heap.size v96).alloc lZ (.cells #[.slice none 0 0,.string (S [])] 35);have zb124:v96.heap.size<(v96.alloc (.cells #[.slice none 0 0,.string (S [])] 35)).heap.size:=by simp
      have zc125:=BX2_100.o.1.1;refine hK.out _ _ (hS97.step (hb.mono HBW99.o.size) HLT.o) (fun hS123=>?_);clear hK K;have HBW126:=bt HBW99 hb;have BX2_127:=qh (And.intro (BX2_100.o.1.below hb) BX2_100.o.2);have BX1_128:=qh (And.intro (TBx.new (.slice none 0 0) [] v96) HBW99.o.size);clear hb;generalize v96.alloc (.cells #[.slice none 0 0,.string (S [])] 35)=v122 at *
      try simp only [qA,qB,qC,Act.put,qD,qE,qF]
      refine trd 7 fun K hK=>?_;go_simp;refine (a5p _ _ l t1 t2 k _ (HU.o.below (HBW.o.trans (HBW126.o.mono HBW.o.size))) (HT.o.str.below HBW126.o) hm oZ oZ).mono ?_;rintro e v129 ⟨nv,rfl,ho,hb⟩;rw [HRR.o]at ho⊢;simp only at ho⊢;unfold a1c;obtain⟨va,vc,rfl⟩:=a0i ho;have HAP2:=qh (show (.slice va nx.length vc:Value).ownBlock≠some (v0.heap.size) from fun k=>by have h1:=(World.ownsRow.lt ho _ k).1;have h2:=BX2_127.o.1.1;omega);have HAP1:=qh (show (.slice va nx.length vc:Value).ownBlock≠some (v96.heap.size) from fun k=>by have h1:=(World.ownsRow.lt ho _ k).1;have h2:=BX1_128.o.1.1;omega);refine hK.out _ _ (hS123.step (hb.mono HBW126.o.size) HLT.o) (fun hS130=>?_);clear hK K;have HBW131:=bt HBW126 hb;have BX2_132:=qh (And.intro (BX2_127.o.1.below hb) BX2_127.o.2);have BX1_133:=qh (And.intro (BX1_128.o.1.below hb) BX1_128.o.2);have HO_134:=qh (a0y ho HBW126.o.size);clear ho hb
      try simp only []
      refine tk1 8 hS130 ?_;refine tk1 9 hS130 ?_;refine tk1 10 hS130 ?_;refine tk1 11 hS130 ?_;refine trd 14 fun K hK=>?_;have hw1:=BX1_133.o.2;obtain⟨zb,cb0,cb1,fb0,fb1⟩:=BX1_133.o.1;go_simp;obtain⟨v135,hv135⟩:∃y,((v129.setCell ⟨v96.heap.size,0,none⟩ (.slice va nx.length vc)).setCell ⟨v96.heap.size,1,none⟩ (.string (S scr)))=y:=⟨_,rfl⟩;have hcg:Chg (fun k=>k=v96.heap.size) v129 v135:=by rw [←hv135];exact ((Chg.refl (fun k=>k=v96.heap.size) v129).setCell (p:=⟨v96.heap.size,0,none⟩) rfl _).setCell (p:=⟨v96.heap.size,1,none⟩) rfl _
      have hbox1:a0n v96.heap.size (.slice va nx.length vc) scr v135:=by rw [←hv135];exact a0n.set2 cb0 cb1 zb
      have hbw1:Below wr.heap.size wr v135:=Chg.a0k HBW131.o hcg HBW131.o.size (fun k h=>by have h9:k=v96.heap.size:=h;omega);have hst:RdS w.heap.size (w.heap.size+2) g (og+j) (.slice ad l.length cap) (.slice ta t1.length tc) t2 k v135:=hS130.step (B:=wr.heap.size) (hcg.below HBW131.o.size (fun k h=>by have h9:k=v96.heap.size:=h;omega)) HLT.o;refine hK.out _ _ (by rw [hv135];exact hst) (fun hS136=>?_);clear hK K;rw [hv135]at hS136⊢
      try simp only [qA,qB,qC,Act.put,qD,qE,qF]
      have HO_137:=qh (a0j HO_134.o hcg (fun k hk h=>HAP1.o (by have h9:k=v96.heap.size:=h;rw [hk,h9])));have BX2_z:=qh (And.intro (BX2_132.o.1.a0e hcg oZ) BX2_132.o.2);have HBW138:=qh hbw1;clear hcg zb cb0 cb1 fb0 fb1 hst;refine trd 15 fun K hK=>?_;have hw2:=BX2_z.o.2;obtain⟨zb,cb0,cb1,fb0,fb1⟩:=BX2_z.o.1;go_simp;obtain⟨v139,hv139⟩:∃y,((v135.setCell ⟨v0.heap.size,0,none⟩ (.int .i64 en)).setCell ⟨v0.heap.size,1,none⟩ (.string (S et)))=y:=⟨_,rfl⟩;have hcg:Chg (fun k=>k=v0.heap.size) v135 v139:=by rw [←hv139];exact ((Chg.refl (fun k=>k=v0.heap.size) v135).setCell (p:=⟨v0.heap.size,0,none⟩) rfl _).setCell (p:=⟨v0.heap.size,1,none⟩) rfl _
      have hbox2:a0n v0.heap.size (.int .i64 en) et v139:=by rw [←hv139];exact a0n.set2 cb0 cb1 zb
      have hbw2:Below wr.heap.size wr v139:=Chg.a0k HBW138.o hcg HBW138.o.size (fun k h=>by have h9:k=v0.heap.size:=h;omega);have hst:RdS w.heap.size (w.heap.size+2) g (og+j) (.slice ad l.length cap) (.slice ta t1.length tc) t2 k v139:=hS136.step (B:=wr.heap.size) (hcg.below HBW138.o.size (fun k h=>by have h9:k=v0.heap.size:=h;omega)) HLT.o;refine hK.out _ _ (by rw [hv139];exact hst) (fun hS140=>?_);clear hK K;rw [hv139]at hS140⊢
      try simp only [qA,qB,qC,Act.put,qD,qE,qF]
      have HO_141:=qh (a0j HO_137.o hcg (fun k hk h=>HAP2.o (by have h9:k=v0.heap.size:=h;rw [hk,h9])));have hbox1z:=hbox1.a0e hcg oZ;have HBW142:=qh hbw2;clear hcg zb cb0 cb1 fb0 fb1 hst;refine tk1 16 hS140 ?_;exact zq120
   case rest=>
    obtain⟨b1,b2,va,vc,rfl,rfl,rfl,hx1,hx2,ho,hb,hw1,hw2⟩:=hcut;have HT3:=qh (HT.o.below hb);have HX3:=qh (HXW.o.below hb);have HR3:=qh (HRW.o.below hb);have HB3:=bt HBW hb;have HX1:=qh hx1;have HOW:=qh ho;have HBB:=qh hb;have hzz:=hb.size;generalize hww:wc=w3 at *;clear hww hb ho hx1 hx2 HRD
    cases ok
    ·have HP:=qh (P.c6i (s:=(l,(st,sc))) (o:=o) (by rw [HN1.o,HRR.o];rfl));obtain⟨⟨o0,o1,o2,o3,o4,o5,o6⟩,_⟩:=HX3.o;obtain⟨⟨r0,r1,r2,r3,r4,r5,r6⟩,f0,f1,f2,f3,f4,f5⟩:=HR3.o;obtain⟨V,hV⟩:∃v,((((((w3.setCell ⟨w.heap.size+1,0,none⟩ ((.slice ad l.length cap))).setCell ⟨w.heap.size+1,1,none⟩ ((.slice sd st.length sap))).setCell ⟨w.heap.size+1,2,none⟩ (.string (S sc))).setCell ⟨w.heap.size+1,3,none⟩ (.string (S d))).setCell ⟨w.heap.size+1,4,none⟩ (.string (S p))).setCell ⟨w.heap.size+1,5,none⟩ (.int .i64 n))=v:=⟨_,rfl⟩;have hset:Chg (fun b=>b=w.heap.size+1) w3 V:=by rw [←hV];exact (((((((Chg.refl (fun b=>b=w.heap.size+1) w3).setCell (p:=⟨w.heap.size+1,0,none⟩) rfl _).setCell (p:=⟨w.heap.size+1,1,none⟩) rfl _).setCell (p:=⟨w.heap.size+1,2,none⟩) rfl _).setCell (p:=⟨w.heap.size+1,3,none⟩) rfl _).setCell (p:=⟨w.heap.size+1,4,none⟩) rfl _).setCell (p:=⟨w.heap.size+1,5,none⟩) rfl _)
     have HRV:=qh (show SOut (w.heap.size+1) ((.slice ad l.length cap)) ((.slice sd st.length sap)) sc d p n V from by rw [←hV];exact ((HR3.o.set0 (x:=(.slice ad l.length cap))).set1 (x:=(.slice sd st.length sap)) (r:=sc)).set3 (d':=d) (p':=p) (n':=n));have HBV:=qh (Chg.a0k HB3.o hset HB3.o.size (fun b h=>by have h9:b=w.heap.size+1:=h;omega));go_wp2
     try rw [hV]
     clear hset hV;obtain⟨q0,q1,q2,q3,q4,q5,q6⟩:=HRV.o.1;refine bodyPost_ret (v:=.tuple #[a1e ((.slice ad l.length cap)) ((.slice sd st.length sap)) sc d p n,.string (S [63])]) (by simp [results,Tryz.results168,go_sem,q0,q1,q2,q3,q4,q5]) rfl ⟨(.slice ad l.length cap),(.slice sd st.length sap),by rw [HP.o];rfl,by rw [HP.o];exact .inl ⟨rfl,rfl⟩,by rw [HP.o];exact .inl ⟨rfl,rfl⟩,HBV.o⟩
    ·have htr:P.trans l (nx,scr)=true:=by have h:=P.a9c (d:=l) (t:=(t1,t2)) (k:=k) (by rw [HRR.o]);rw [HRR.o]at h;exact h
     have hnl:=(P.a1h htr).1;simp only at hnl;have HT4:=qh (HT.o.store (t':=(nx,scr)) (nv:=.slice va nx.length vc) HBB.o hz3 HOW.o htr (by simp only;omega));obtain⟨k1,k2,_⟩:=HX1.o;obtain⟨zb,c0,c1,f0,f1⟩:=HT3.o.box;clear HT HT3 HX3 HR3 HB3 HXW HRW;exact zq130
  ·have hjl:j=o.length:=by omega
   subst hjl;have HP:=qh (show P.typed (l,(st,sc)) o=((l,(t1,t2)),some (P.fmtE (P.least sc t2))) from P.c2i (s:=(l,(st,sc))) (HRUN.o.trans P.c2b));obtain⟨hl1,hl2⟩:=HSP.o;obtain⟨⟨o0,o1,o2,o3,o4,o5,o6⟩,g0,g1,g2,g3,g4,g5⟩:=HXW.o;obtain⟨zb,c0,c1,f0,f1⟩:=HT.o.box;have HED:=qh (show P.a3o (P.least sc t2)=true from P.b0s (P.a2b HT0S.o) (P.a2b HT.o.tra))
   go_wp2_with fail
   refine (b2x sc t2 _ oZ oZ).mono ?_;rintro e w3 ⟨rfl,hb⟩;obtain⟨x,et,hE⟩:∃x et,P.least sc t2=(x,et):=⟨_,_,rfl⟩;rw [hE]at HP HED⊢;clear hE;have hba:=(Below.refl w3.heap.size w3).alloc lZ (.cells #[.int .i64 x,.string (S et)] 55);have HT4:=qh ((HT.o.below hb).below hba);have HX4:=qh ((HXW.o.below hb).below hba);have HR4:=qh ((HRW.o.below hb).below hba);have HB3:=bt HBW hb;have HB4:=bt HB3 hba;have HE4:=qh (a0n.new (.int .i64 x) et 55 w3);have hz4:w.heap.size+3≤w3.heap.size:=Nat.le_trans hz3 hb.size;clear o0 o1 o2 o3 o4 o5 o6 g0 g1 g2 g3 g4 g5 zb c0 c1 f0 f1 hb hba HT HXW HRW HBW HB3
   go_upto_region 10 with fail
   generalize w3.alloc (.cells #[.int .i64 x,.string (S et)] 55)=w4 at *;obtain⟨⟨o0,o1,o2,o3,o4,o5,o6⟩,g0,g1,g2,g3,g4,g5⟩:=HX4.o;obtain⟨zb,c0,c1,f0,f1⟩:=HT4.o.box;obtain⟨w5,hw5⟩:∃v,(w4.setCell ⟨w.heap.size,1,none⟩ (.slice ta t1.length tc)).setCell ⟨w.heap.size,2,none⟩ (.string (S t2))=v:=⟨_,rfl⟩;have hset:Chg (fun b=>b=w.heap.size) w4 w5:=by rw [←hw5];exact ((Chg.refl (fun b=>b=w.heap.size) w4).setCell (p:=⟨w.heap.size,1,none⟩) rfl _).setCell (p:=⟨w.heap.size,2,none⟩) rfl _
   have HX5:=qh (show SOut w.heap.size (.slice ad l.length cap) (.slice ta t1.length tc) t2 d p n w5 from by rw [←hw5];exact HX4.o.set1 (x:=(.slice ta t1.length tc)) (r:=t2));have HR5:=qh (HR4.o.a0e hset oZ);have HE5:=qh (HE4.o.a0e hset oZ);have HB5:=qh (Chg.a0k HB4.o hset HB4.o.size (fun b h=>by have h9:b=w.heap.size:=h;omega));have HC5a:=qh (hset.mono (F':=fun b=>b<w.heap.size+3) (fun b _ h=>by have h9:b=w.heap.size:=h;omega))
   go_upto_region 11 with fail
   try rw [hw5]
   clear o0 o1 o2 o3 o4 o5 o6 g0 g1 g2 g3 g4 g5 zb c0 c1 f0 f1 hset hw5 HX4 HR4 HE4 HB4;have HXD:=qh (HX5.o.below bZ.drew);have HRD2:=qh (HR5.o.below bZ.drew);have HEB:=qh (HE5.o.below bZ.drew);have HBD:=qh (HB5.o.trans (bZ.drew.mono HB5.o.size))
   go_upto_region 11 with fail
   refine wp_region_held_drew (S:=fun v=>SOut (w.heap.size) ((.slice ad l.length cap)) ((.slice ta t1.length tc)) t2 d p n v∧a0n (w3.heap.size) (.int .i64 x) et v) kZ ⟨HXD.o,HEB.o⟩ (fun hS0=>?_);have HCD:=qh (show Chg (fun b=>b=w.heap.size+1) w5 w5.drew from (Chg.refl _ _).drew);generalize w5.drew=y0 at *;refine tk13 0 hS0 ?_;refine tk13 1 hS0 ?_;refine trd 2 fun K hK=>?_;go_simp;refine (c4p x et _ HED.o).mono ?_;rintro e y1 ⟨rfl,hb⟩;have HR5:=qh (HRD2.o.below hb);have HB5:=bt HBD hb;have HC5:=qh (HCD.o.trans (Below.chg hb _));refine hK.out _ _ ⟨hS0.1.below hb,hS0.2.below hb⟩ (fun hS1=>?_);clear hK K hb
   try simp only [qA,qB,qC,Act.put,qD,qE,qF]
   obtain⟨⟨r0,r1,r2,r3,r4,r5,r6⟩,f0,f1,f2,f3,f4,f5⟩:=HR5.o;obtain⟨V,hV⟩:∃v,((((((y1.setCell ⟨w.heap.size+1,0,none⟩ ((.slice ad l.length cap))).setCell ⟨w.heap.size+1,1,none⟩ ((.slice ta t1.length tc))).setCell ⟨w.heap.size+1,2,none⟩ (.string (S t2))).setCell ⟨w.heap.size+1,3,none⟩ (.string (S d))).setCell ⟨w.heap.size+1,4,none⟩ (.string (S p))).setCell ⟨w.heap.size+1,5,none⟩ (.int .i64 n))=v:=⟨_,rfl⟩;have hset:Chg (fun b=>b=w.heap.size+1) y1 V:=by rw [←hV];exact (((((((Chg.refl (fun b=>b=w.heap.size+1) y1).setCell (p:=⟨w.heap.size+1,0,none⟩) rfl _).setCell (p:=⟨w.heap.size+1,1,none⟩) rfl _).setCell (p:=⟨w.heap.size+1,2,none⟩) rfl _).setCell (p:=⟨w.heap.size+1,3,none⟩) rfl _).setCell (p:=⟨w.heap.size+1,4,none⟩) rfl _).setCell (p:=⟨w.heap.size+1,5,none⟩) rfl _)
   have HRV:=qh (show SOut (w.heap.size+1) ((.slice ad l.length cap)) ((.slice ta t1.length tc)) t2 d p n V from by rw [←hV];exact ((HR5.o.set0 (x:=(.slice ad l.length cap))).set1 (x:=(.slice ta t1.length tc)) (r:=t2)).set3 (d':=d) (p':=p) (n':=n));have HBV:=qh (Chg.a0k HB5.o hset HB5.o.size (fun b h=>by have h9:b=w.heap.size+1:=h;omega));have HCV:=qh (HC5.o.trans hset);refine trd 3 fun K hK=>?_;go_simp;refine hK.out _ _ (by (try rw [hV]);exact⟨hS1.1.a0e hset (fun h=>by have h9:w.heap.size=w.heap.size+1:=h;omega),hS1.2.a0e hset (fun h=>by have h9:w3.heap.size=w.heap.size+1:=h;omega)⟩) (fun hS2=>?_);clear hK K
   try rw [hV]at hS2⊢
   clear r0 r1 r2 r3 r4 r5 r6 f0 f1 f2 f3 f4 f5
   try simp only [qA,qB,qC,Act.put,qD,qE,qF]
   refine tk13 4 hS2 ?_;refine wpAnyH_done kZ ?_ _;go_wp2
   try rw [hV]
   clear hset hV;obtain⟨q0,q1,q2,q3,q4,q5,q6⟩:=HRV.o.1;refine bodyPost_ret (v:=.tuple #[a1e ((.slice ad l.length cap)) ((.slice ta t1.length tc)) t2 d p n,.string (S (P.fmtE (x,et)))]) (by simp [results,Tryz.results168,go_sem,q0,q1,q2,q3,q4,q5]) rfl ⟨(.slice ad l.length cap),(.slice ta t1.length tc),by rw [HP.o];rfl,by rw [HP.o];exact .inl ⟨rfl,rfl⟩,by rw [HP.o];exact HT4.o.fresh (w:=w) (HC5a.o.trans (HCV.o.mono (fun b _ h=>by have h9:b=w.heap.size+1:=h;show b<_;omega))) (fun _ h=>h) (by show t1.length≤_;omega) oZ,HBV.o⟩
end Go.Proofs.YtggfdnopminemaaGreatDoor
