/- Walks: strokes pressed one after another (program). -/
import Derived.Test.YtggfdnopminemaaGreatDoorZt
import Derived.Test.YtggfdnopminemaaGreatDoorSesP
set_option linter.all false
namespace Go.Proofs.YtggfdnopminemaaGreatDoor
open Go Go.RowKit
set_option maxHeartbeats 8000000
set_option maxRecDepth 100000
theorem SesM.keep {lo B:Nat} {s:P.Ses} {g:P.LogT} {w v:World} {a:P.Ans} {x:Str} (h:SesM lo B s g w) (hb:Below w.heap.size w v) (ha:a=(s,none)):a4l lo B a g w (.returned (.tuple #[.string (S x),.bool false])) v:=
 ⟨x,false,rfl,by rw [ha];rfl,by rw [ha];exact h.below hb,Below.chg hb _⟩
theorem L.Env.chgB {B:Nat} {w v:World} (h:L.Env w) (hB:L.EB≤B) (hc:Chg (fun b=>b=B) w v):L.Env v:=
 h.below (hc.below h.size (fun b e=>by have e2:b=B:=e;omega)) lZ
theorem a8d (lo B:Nat) (ou:Value) (l:P.Dic) (st o:List Int) (sc d p:Str) (n:Int) (w:World) (h:SesM lo B (l,(st,sc)) (d,p,n) w) (hm:Small l) (ht:P.trans l (st,sc)=true) (ho:IntR w ou o) (hE:L.Env w) :
 Calls Tryz.prog 139 #[.pointer (some ⟨B,0,none⟩),ou] w (a4l lo B (P.typed (l,(st,sc)) o) (d,p,n) w):=by
 have HSM:=qh h
 obtain⟨hEB,hlo,u,us,hS,hR⟩:=h
 have hBz:B<w.heap.size:=hS.1.2.2.2.2.2.2
 have hu:=hR.dic;have hus:=hR.str
 simp only at hS hR hu hus
 obtain⟨ad,cap,rfl,_,_⟩:=id hu
 obtain⟨sd,sap,rfl,_,_⟩:=id hus
 obtain⟨W0,hW0⟩:∃v,w.alloc (.cells #[(.slice sd st.length sap),.string (S sc)] 35)=v:=⟨_,rfl⟩
 have hb0:Below w.heap.size w W0:=by rw [←hW0];exact bZ.alloc lZ _
 have hz0:W0.heap.size=w.heap.size+1:=by rw [←hW0];simp
 have htb:TBx w.heap.size (.slice sd st.length sap) sc W0:=by rw [←hW0];exact TBx.new (.slice sd st.length sap) sc w
 have HU:=qh hu;have HUS:=qh hus;have HO:=qh ho;have HB:=qh hb0;have HE:=qh hE
 have HX:=qh (hS.below hb0);have HSR:=qh hR
 have HT0:=qh (show TySt W0 (w.heap.size+1) w.heap.size l (.slice sd st.length sap) st (.slice sd st.length sap) (st,sc) W0 from⟨htb,hus.below hb0,ht,Chg.refl _ _,.inl ⟨rfl,rfl⟩⟩)
 have HSP:=qh (P.a4h ht)
 have HT0S:=qh ht
 obtain⟨⟨o0,o1,o2,o3,o4,o5,o6⟩,_⟩:=hS
 clear htb hb0 ht hu hus hE hR
 obtain⟨od,oc,rfl,hol,_⟩:=ho
 go_enter Tryz.func139,Tryz.ntmps139
 go_upto_region 2 with fail
 try rw [hW0]
 clear hW0 o0 o1 o2 o3 o4 o5 o6
 go_wp2
 go_loopw [19] (fun i wr=>∃(j:Nat) (t:P.Tr) (tv:Value),j≤o.length∧i=.int .i64 j∧P.b1v l (st,sc) o=P.b1v l t (o.drop j)∧TySt W0 (w.heap.size+1) w.heap.size l (.slice sd st.length sap) st tv t wr) (fun i _=>o.length-(intOf i).toNat)
 case atStart=>exact⟨0,(st,sc),(.slice sd st.length sap),Nat.zero_le _,rfl,by rw [List.drop_zero],HT0.o⟩
 case round=>
  obtain⟨j,⟨t1,t2⟩,tv,hj,rfl,hrun,hst⟩:=hrel;have HRUN:=qh hrun;have HT:=qh hst;obtain⟨ta,tc,rfl,_,_⟩:=id hst.str;have hs12:=P.a4h hst.tra;have HBW:=qh (Chg.a0x HB.o hst.chg HB.o.size (fun b h=>by have h9:b=w.heap.size:=h;omega));have HXW:=qh (HX.o.a0c hst.chg oZ);obtain⟨hs1,hs2⟩:=hs12;simp only at hs1 hs2;have hbz:=hst.box.1;have hz3:w.heap.size+1≤wr.heap.size:=by have h1:=hst.chg.size;omega
  clear hrun hst HT0
  by_cases hlt:j<o.length
  ·obtain⟨g,og,hga,hgs,c0⟩:=(HO.o.below HBW.o).at j hlt;subst hga;have HN1:=qh (HRUN.o.trans (P.d2o hlt));generalize o[j]=k at *;have i2:(j:Int)<(o.length:Int):=by omega
   obtain⟨nx,scr,en,et,ok,hrr⟩:∃nx scr en et ok,P.a3o l (t1,t2) k=(((nx,scr),(en,et)),ok):=⟨_,_,_,_,_,rfl⟩;have HRR:=qh hrr;clear hrr;have HLT:=qh (show B<wr.heap.size∧w.heap.size<wr.heap.size∧g<wr.heap.size from⟨by omega,hbz,hgs⟩);have HRD:=qh (show RdS B w.heap.size g (og+j) (.slice ad l.length cap) (.slice ta t1.length tc) t2 k wr.drew from RdS.step (B:=wr.heap.size) ⟨HXW.o.1.1,HT.o.box.2.1,HT.o.box.2.2.1,c0⟩ bZ.drew HLT.o)
   go_upto_region 5 with fail
   clear c0
   go_cut [9,10,11] (fun pp qq okv wx=>∃b1 b2 va vc,pp=.pointer (some ⟨b1,0,none⟩)∧qq=.pointer (some ⟨b2,0,none⟩)∧okv=.bool ok∧a0w b1 (.slice va nx.length vc) scr wx∧a0w b2 (.int .i64 en) et wx∧OwnK wr.heap.size wx (.slice va nx.length vc) nx∧Below wr.heap.size wr wx∧wr.heap.size≤b1∧wr.heap.size≤b2)
   case first=>
    have HBW0:=qh (show Below wr.heap.size wr wr.drew from bZ.drew);refine wp_region_held_drew (S:=RdS B w.heap.size g (og+j) (.slice ad l.length cap) (.slice ta t1.length tc) t2 k) kZ HRD.o (fun hS0=>?_);generalize wr.drew=v0 at *;refine tk1 0 hS0 ?_;refine tk1 1 hS0 ?_;refine tk1 2 hS0 ?_;refine tk1 3 hS0 ?_;refine tk1 4 hS0 ?_;refine tk1 5 hS0 ?_;refine wpAnyH_ready (rs:=[6,11,12]) kZ sZ ?_;refine AllReadyH.cons rfl (fun K hK=>?_) (AllReadyH.cons rfl (fun K hK=>?_) (AllReadyH.cons rfl (fun K hK=>?_) AllReadyH.nil))
    ·skip;go_simp;refine (a5h _ _ l t1 t2 k _ (HU.o.below (HBW.o.trans (HBW0.o.mono HBW.o.size))) (HT.o.str.below HBW0.o) hm ((HE.o.below (HBW.o.trans (HBW0.o.mono HBW.o.size)) HE.o.size).dic) oZ oZ).mono ?_;rintro e v1 ⟨nv,rfl,ho,hb⟩;rw [HRR.o]at ho⊢;simp only at ho⊢;unfold a2j;obtain⟨va,vc,rfl⟩:=a0j ho;refine hK.out _ _ (hS0.step (hb.mono HBW0.o.size) HLT.o) (fun hS2=>?_);clear hK K;have HBW3:=bt HBW0 hb;have HO_4:=qh (a1n ho HBW0.o.size);clear ho hb
     try simp only []
     refine tk1 7 hS2 ?_;refine tk1 8 hS2 ?_;refine tk1 9 hS2 ?_;refine tk1 10 hS2 ?_;refine wpAnyH_ready (rs:=[11,12]) kZ sZ ?_;refine AllReadyH.cons rfl (fun K hK=>?_) (AllReadyH.cons rfl (fun K hK=>?_) AllReadyH.nil)
     ·skip;go_simp;have hb:=(Below.refl v1.heap.size v1).alloc lZ (.cells #[.slice none 0 0,.string (S [])] 35);have zb7:v1.heap.size<(v1.alloc (.cells #[.slice none 0 0,.string (S [])] 35)).heap.size:=by simp
      have HAP1:=qh (show (.slice va nx.length vc:Value).ownBlock≠some (v1.heap.size) from fun k=>by have h1:=(World.ownsRow.lt HO_4.o _ k).2;omega);refine hK.out _ _ (hS2.step (hb.mono HBW3.o.size) HLT.o) (fun hS6=>?_);clear hK K;have HBW8:=bt HBW3 hb;have HO_9:=qh (a0k HO_4.o hb lZ);have BX1_10:=qh (And.intro (TBx.new (.slice none 0 0) [] v1) HBW3.o.size);clear hb;generalize v1.alloc (.cells #[.slice none 0 0,.string (S [])] 35)=v5 at *
      try simp only [qA,qB,qC,Act.put,qD,qE,qF]
      refine trd 12 fun K hK=>?_;go_simp;have hb:=(Below.refl v5.heap.size v5).alloc lZ (.cells #[.int .i64 0,.string (S [])] 55);have zb13:v5.heap.size<(v5.alloc (.cells #[.int .i64 0,.string (S [])] 55)).heap.size:=by simp
      have zc14:=BX1_10.o.1.1;have HAP2:=qh (show (.slice va nx.length vc:Value).ownBlock≠some (v5.heap.size) from fun k=>by have h1:=(World.ownsRow.lt HO_9.o _ k).2;omega);refine hK.out _ _ (hS6.step (hb.mono HBW8.o.size) HLT.o) (fun hS12=>?_);clear hK K;have HBW15:=bt HBW8 hb;have BX1_16:=qh (And.intro (BX1_10.o.1.below hb) BX1_10.o.2);have HO_17:=qh (a0k HO_9.o hb lZ);have BX2_18:=qh (And.intro (EBx.new v5) HBW8.o.size);clear hb;generalize v5.alloc (.cells #[.int .i64 0,.string (S [])] 55)=v11 at *
      try simp only [qA,qB,qC,Act.put,qD,qE,qF]
      refine trd 13 fun K hK=>?_;have hw1:=BX1_16.o.2;obtain⟨zb,cb0,cb1,fb0,fb1⟩:=BX1_16.o.1;go_simp;obtain⟨v19,hv19⟩:∃y,((v11.setCell ⟨v1.heap.size,0,none⟩ (.slice va nx.length vc)).setCell ⟨v1.heap.size,1,none⟩ (.string (S scr)))=y:=⟨_,rfl⟩;have hcg:Chg (fun k=>k=v1.heap.size) v11 v19:=by rw [←hv19];exact ((Chg.refl (fun k=>k=v1.heap.size) v11).setCell (p:=⟨v1.heap.size,0,none⟩) rfl _).setCell (p:=⟨v1.heap.size,1,none⟩) rfl _
      have hbox1:a0w v1.heap.size (.slice va nx.length vc) scr v19:=by rw [←hv19];exact a0w.set2 cb0 cb1 zb
      have hbw1:Below wr.heap.size wr v19:=Chg.a0x HBW15.o hcg HBW15.o.size (fun k h=>by have h9:k=v1.heap.size:=h;omega);have hst:RdS B w.heap.size g (og+j) (.slice ad l.length cap) (.slice ta t1.length tc) t2 k v19:=hS12.step (B:=wr.heap.size) (hcg.below HBW15.o.size (fun k h=>by have h9:k=v1.heap.size:=h;omega)) HLT.o;refine hK.out _ _ (by rw [hv19];exact hst) (fun hS20=>?_);clear hK K;rw [hv19]at hS20⊢
      try simp only [qA,qB,qC,Act.put,qD,qE,qF]
      have HO_21:=qh (a0g HO_17.o hcg (fun k hk h=>HAP1.o (by have h9:k=v1.heap.size:=h;rw [hk,h9])));have BX2_z:=qh (And.intro (BX2_18.o.1.a0c hcg oZ) BX2_18.o.2);have HBW22:=qh hbw1;clear hcg zb cb0 cb1 fb0 fb1 hst;refine trd 14 fun K hK=>?_;have hw2:=BX2_z.o.2;obtain⟨zb,cb0,cb1,fb0,fb1⟩:=BX2_z.o.1;go_simp;obtain⟨v23,hv23⟩:∃y,((v19.setCell ⟨v5.heap.size,0,none⟩ (.int .i64 en)).setCell ⟨v5.heap.size,1,none⟩ (.string (S et)))=y:=⟨_,rfl⟩;have hcg:Chg (fun k=>k=v5.heap.size) v19 v23:=by rw [←hv23];exact ((Chg.refl (fun k=>k=v5.heap.size) v19).setCell (p:=⟨v5.heap.size,0,none⟩) rfl _).setCell (p:=⟨v5.heap.size,1,none⟩) rfl _
      have hbox2:a0w v5.heap.size (.int .i64 en) et v23:=by rw [←hv23];exact a0w.set2 cb0 cb1 zb
      have hbw2:Below wr.heap.size wr v23:=Chg.a0x HBW22.o hcg HBW22.o.size (fun k h=>by have h9:k=v5.heap.size:=h;omega);have hst:RdS B w.heap.size g (og+j) (.slice ad l.length cap) (.slice ta t1.length tc) t2 k v23:=hS20.step (B:=wr.heap.size) (hcg.below HBW22.o.size (fun k h=>by have h9:k=v5.heap.size:=h;omega)) HLT.o;refine hK.out _ _ (by rw [hv23];exact hst) (fun hS24=>?_);clear hK K;rw [hv23]at hS24⊢
      try simp only [qA,qB,qC,Act.put,qD,qE,qF]
      have HO_25:=qh (a0g HO_21.o hcg (fun k hk h=>HAP2.o (by have h9:k=v5.heap.size:=h;rw [hk,h9])));have hbox1z:=hbox1.a0c hcg oZ;have HBW26:=qh hbw2;clear hcg zb cb0 cb1 fb0 fb1 hst;refine tk1 15 hS24 ?_;refine wpAnyH_done kZ ?_ _
      go_wp2_with fail
      go_meet;exact⟨v1.heap.size,v5.heap.size,va,vc,rfl,rfl,rfl,hbox1z,hbox2,HO_25.o,HBW26.o,by omega,by omega⟩
     ·skip;go_simp;have hb:=(Below.refl v1.heap.size v1).alloc lZ (.cells #[.int .i64 0,.string (S [])] 55);have zb29:v1.heap.size<(v1.alloc (.cells #[.int .i64 0,.string (S [])] 55)).heap.size:=by simp
      have HAP2:=qh (show (.slice va nx.length vc:Value).ownBlock≠some (v1.heap.size) from fun k=>by have h1:=(World.ownsRow.lt HO_4.o _ k).2;omega);refine hK.out _ _ (hS2.step (hb.mono HBW3.o.size) HLT.o) (fun hS28=>?_);clear hK K;have HBW30:=bt HBW3 hb;have HO_31:=qh (a0k HO_4.o hb lZ);have BX2_32:=qh (And.intro (EBx.new v1) HBW3.o.size);clear hb;generalize v1.alloc (.cells #[.int .i64 0,.string (S [])] 55)=v27 at *
      try simp only [qA,qB,qC,Act.put,qD,qE,qF]
      refine trd 11 fun K hK=>?_;go_simp;have hb:=(Below.refl v27.heap.size v27).alloc lZ (.cells #[.slice none 0 0,.string (S [])] 35);have zb35:v27.heap.size<(v27.alloc (.cells #[.slice none 0 0,.string (S [])] 35)).heap.size:=by simp
      have zc36:=BX2_32.o.1.1;have HAP1:=qh (show (.slice va nx.length vc:Value).ownBlock≠some (v27.heap.size) from fun k=>by have h1:=(World.ownsRow.lt HO_31.o _ k).2;omega);refine hK.out _ _ (hS28.step (hb.mono HBW30.o.size) HLT.o) (fun hS34=>?_);clear hK K;have HBW37:=bt HBW30 hb;have BX2_38:=qh (And.intro (BX2_32.o.1.below hb) BX2_32.o.2);have HO_39:=qh (a0k HO_31.o hb lZ);have BX1_40:=qh (And.intro (TBx.new (.slice none 0 0) [] v27) HBW30.o.size);clear hb;generalize v27.alloc (.cells #[.slice none 0 0,.string (S [])] 35)=v33 at *
      try simp only [qA,qB,qC,Act.put,qD,qE,qF]
      refine trd 13 fun K hK=>?_;have hw1:=BX1_40.o.2;obtain⟨zb,cb0,cb1,fb0,fb1⟩:=BX1_40.o.1;go_simp;obtain⟨v41,hv41⟩:∃y,((v33.setCell ⟨v27.heap.size,0,none⟩ (.slice va nx.length vc)).setCell ⟨v27.heap.size,1,none⟩ (.string (S scr)))=y:=⟨_,rfl⟩;have hcg:Chg (fun k=>k=v27.heap.size) v33 v41:=by rw [←hv41];exact ((Chg.refl (fun k=>k=v27.heap.size) v33).setCell (p:=⟨v27.heap.size,0,none⟩) rfl _).setCell (p:=⟨v27.heap.size,1,none⟩) rfl _
      have hbox1:a0w v27.heap.size (.slice va nx.length vc) scr v41:=by rw [←hv41];exact a0w.set2 cb0 cb1 zb
      have hbw1:Below wr.heap.size wr v41:=Chg.a0x HBW37.o hcg HBW37.o.size (fun k h=>by have h9:k=v27.heap.size:=h;omega);have hst:RdS B w.heap.size g (og+j) (.slice ad l.length cap) (.slice ta t1.length tc) t2 k v41:=hS34.step (B:=wr.heap.size) (hcg.below HBW37.o.size (fun k h=>by have h9:k=v27.heap.size:=h;omega)) HLT.o;refine hK.out _ _ (by rw [hv41];exact hst) (fun hS42=>?_);clear hK K;rw [hv41]at hS42⊢
      try simp only [qA,qB,qC,Act.put,qD,qE,qF]
      have HO_43:=qh (a0g HO_39.o hcg (fun k hk h=>HAP1.o (by have h9:k=v27.heap.size:=h;rw [hk,h9])));have BX2_z:=qh (And.intro (BX2_38.o.1.a0c hcg oZ) BX2_38.o.2);have HBW44:=qh hbw1;clear hcg zb cb0 cb1 fb0 fb1 hst;refine trd 14 fun K hK=>?_;have hw2:=BX2_z.o.2;obtain⟨zb,cb0,cb1,fb0,fb1⟩:=BX2_z.o.1;go_simp;obtain⟨v45,hv45⟩:∃y,((v41.setCell ⟨v1.heap.size,0,none⟩ (.int .i64 en)).setCell ⟨v1.heap.size,1,none⟩ (.string (S et)))=y:=⟨_,rfl⟩;have hcg:Chg (fun k=>k=v1.heap.size) v41 v45:=by rw [←hv45];exact ((Chg.refl (fun k=>k=v1.heap.size) v41).setCell (p:=⟨v1.heap.size,0,none⟩) rfl _).setCell (p:=⟨v1.heap.size,1,none⟩) rfl _
      have hbox2:a0w v1.heap.size (.int .i64 en) et v45:=by rw [←hv45];exact a0w.set2 cb0 cb1 zb
      have hbw2:Below wr.heap.size wr v45:=Chg.a0x HBW44.o hcg HBW44.o.size (fun k h=>by have h9:k=v1.heap.size:=h;omega);have hst:RdS B w.heap.size g (og+j) (.slice ad l.length cap) (.slice ta t1.length tc) t2 k v45:=hS42.step (B:=wr.heap.size) (hcg.below HBW44.o.size (fun k h=>by have h9:k=v1.heap.size:=h;omega)) HLT.o;refine hK.out _ _ (by rw [hv45];exact hst) (fun hS46=>?_);clear hK K;rw [hv45]at hS46⊢
      try simp only [qA,qB,qC,Act.put,qD,qE,qF]
      have HO_47:=qh (a0g HO_43.o hcg (fun k hk h=>HAP2.o (by have h9:k=v1.heap.size:=h;rw [hk,h9])));have hbox1z:=hbox1.a0c hcg oZ;have HBW48:=qh hbw2;clear hcg zb cb0 cb1 fb0 fb1 hst;refine tk1 15 hS46 ?_;refine wpAnyH_done kZ ?_ _
      go_wp2_with fail
      go_meet;exact⟨v27.heap.size,v1.heap.size,va,vc,rfl,rfl,rfl,hbox1z,hbox2,HO_47.o,HBW48.o,by omega,by omega⟩
    ·skip;go_simp;have hb:=(Below.refl v0.heap.size v0).alloc lZ (.cells #[.slice none 0 0,.string (S [])] 35);have zb51:v0.heap.size<(v0.alloc (.cells #[.slice none 0 0,.string (S [])] 35)).heap.size:=by simp
     refine hK.out _ _ (hS0.step (hb.mono HBW0.o.size) HLT.o) (fun hS50=>?_);clear hK K;have HBW52:=bt HBW0 hb;have BX1_53:=qh (And.intro (TBx.new (.slice none 0 0) [] v0) HBW0.o.size);clear hb;generalize v0.alloc (.cells #[.slice none 0 0,.string (S [])] 35)=v49 at *
     try simp only [qA,qB,qC,Act.put,qD,qE,qF]
     refine wpAnyH_ready (rs:=[6,12]) kZ sZ ?_;refine AllReadyH.cons rfl (fun K hK=>?_) (AllReadyH.cons rfl (fun K hK=>?_) AllReadyH.nil)
     ·skip;go_simp;refine (a5h _ _ l t1 t2 k _ (HU.o.below (HBW.o.trans (HBW52.o.mono HBW.o.size))) (HT.o.str.below HBW52.o) hm ((HE.o.below (HBW.o.trans (HBW52.o.mono HBW.o.size)) HE.o.size).dic) oZ oZ).mono ?_;rintro e v54 ⟨nv,rfl,ho,hb⟩;rw [HRR.o]at ho⊢;simp only at ho⊢;unfold a2j;obtain⟨va,vc,rfl⟩:=a0j ho;have HAP1:=qh (show (.slice va nx.length vc:Value).ownBlock≠some (v0.heap.size) from fun k=>by have h1:=(World.ownsRow.lt ho _ k).1;have h2:=BX1_53.o.1.1;omega);refine hK.out _ _ (hS50.step (hb.mono HBW52.o.size) HLT.o) (fun hS55=>?_);clear hK K;have HBW56:=bt HBW52 hb;have BX1_57:=qh (And.intro (BX1_53.o.1.below hb) BX1_53.o.2);have HO_58:=qh (a1n ho HBW52.o.size);clear ho hb
      try simp only []
      refine tk1 7 hS55 ?_;refine tk1 8 hS55 ?_;refine tk1 9 hS55 ?_;refine tk1 10 hS55 ?_;refine trd 12 fun K hK=>?_;go_simp;have hb:=(Below.refl v54.heap.size v54).alloc lZ (.cells #[.int .i64 0,.string (S [])] 55);have zb61:v54.heap.size<(v54.alloc (.cells #[.int .i64 0,.string (S [])] 55)).heap.size:=by simp
      have zc62:=BX1_57.o.1.1;have HAP2:=qh (show (.slice va nx.length vc:Value).ownBlock≠some (v54.heap.size) from fun k=>by have h1:=(World.ownsRow.lt HO_58.o _ k).2;omega);refine hK.out _ _ (hS55.step (hb.mono HBW56.o.size) HLT.o) (fun hS60=>?_);clear hK K;have HBW63:=bt HBW56 hb;have BX1_64:=qh (And.intro (BX1_57.o.1.below hb) BX1_57.o.2);have HO_65:=qh (a0k HO_58.o hb lZ);have BX2_66:=qh (And.intro (EBx.new v54) HBW56.o.size);clear hb;generalize v54.alloc (.cells #[.int .i64 0,.string (S [])] 55)=v59 at *
      try simp only [qA,qB,qC,Act.put,qD,qE,qF]
      refine trd 13 fun K hK=>?_;have hw1:=BX1_64.o.2;obtain⟨zb,cb0,cb1,fb0,fb1⟩:=BX1_64.o.1;go_simp;obtain⟨v67,hv67⟩:∃y,((v59.setCell ⟨v0.heap.size,0,none⟩ (.slice va nx.length vc)).setCell ⟨v0.heap.size,1,none⟩ (.string (S scr)))=y:=⟨_,rfl⟩;have hcg:Chg (fun k=>k=v0.heap.size) v59 v67:=by rw [←hv67];exact ((Chg.refl (fun k=>k=v0.heap.size) v59).setCell (p:=⟨v0.heap.size,0,none⟩) rfl _).setCell (p:=⟨v0.heap.size,1,none⟩) rfl _
      have hbox1:a0w v0.heap.size (.slice va nx.length vc) scr v67:=by rw [←hv67];exact a0w.set2 cb0 cb1 zb
      have hbw1:Below wr.heap.size wr v67:=Chg.a0x HBW63.o hcg HBW63.o.size (fun k h=>by have h9:k=v0.heap.size:=h;omega);have hst:RdS B w.heap.size g (og+j) (.slice ad l.length cap) (.slice ta t1.length tc) t2 k v67:=hS60.step (B:=wr.heap.size) (hcg.below HBW63.o.size (fun k h=>by have h9:k=v0.heap.size:=h;omega)) HLT.o;refine hK.out _ _ (by rw [hv67];exact hst) (fun hS68=>?_);clear hK K;rw [hv67]at hS68⊢
      try simp only [qA,qB,qC,Act.put,qD,qE,qF]
      have HO_69:=qh (a0g HO_65.o hcg (fun k hk h=>HAP1.o (by have h9:k=v0.heap.size:=h;rw [hk,h9])));have BX2_z:=qh (And.intro (BX2_66.o.1.a0c hcg oZ) BX2_66.o.2);have HBW70:=qh hbw1;clear hcg zb cb0 cb1 fb0 fb1 hst;refine trd 14 fun K hK=>?_;have hw2:=BX2_z.o.2;obtain⟨zb,cb0,cb1,fb0,fb1⟩:=BX2_z.o.1;go_simp;obtain⟨v71,hv71⟩:∃y,((v67.setCell ⟨v54.heap.size,0,none⟩ (.int .i64 en)).setCell ⟨v54.heap.size,1,none⟩ (.string (S et)))=y:=⟨_,rfl⟩;have hcg:Chg (fun k=>k=v54.heap.size) v67 v71:=by rw [←hv71];exact ((Chg.refl (fun k=>k=v54.heap.size) v67).setCell (p:=⟨v54.heap.size,0,none⟩) rfl _).setCell (p:=⟨v54.heap.size,1,none⟩) rfl _
      have hbox2:a0w v54.heap.size (.int .i64 en) et v71:=by rw [←hv71];exact a0w.set2 cb0 cb1 zb
      have hbw2:Below wr.heap.size wr v71:=Chg.a0x HBW70.o hcg HBW70.o.size (fun k h=>by have h9:k=v54.heap.size:=h;omega);have hst:RdS B w.heap.size g (og+j) (.slice ad l.length cap) (.slice ta t1.length tc) t2 k v71:=hS68.step (B:=wr.heap.size) (hcg.below HBW70.o.size (fun k h=>by have h9:k=v54.heap.size:=h;omega)) HLT.o;refine hK.out _ _ (by rw [hv71];exact hst) (fun hS72=>?_);clear hK K;rw [hv71]at hS72⊢
      try simp only [qA,qB,qC,Act.put,qD,qE,qF]
      have HO_73:=qh (a0g HO_69.o hcg (fun k hk h=>HAP2.o (by have h9:k=v54.heap.size:=h;rw [hk,h9])));have hbox1z:=hbox1.a0c hcg oZ;have HBW74:=qh hbw2;clear hcg zb cb0 cb1 fb0 fb1 hst;refine tk1 15 hS72 ?_;refine wpAnyH_done kZ ?_ _
      go_wp2_with fail
      go_meet;exact⟨v0.heap.size,v54.heap.size,va,vc,rfl,rfl,rfl,hbox1z,hbox2,HO_73.o,HBW74.o,by omega,by omega⟩
     ·skip;go_simp;have hb:=(Below.refl v49.heap.size v49).alloc lZ (.cells #[.int .i64 0,.string (S [])] 55);have zb77:v49.heap.size<(v49.alloc (.cells #[.int .i64 0,.string (S [])] 55)).heap.size:=by simp
      have zc78:=BX1_53.o.1.1;refine hK.out _ _ (hS50.step (hb.mono HBW52.o.size) HLT.o) (fun hS76=>?_);clear hK K;have HBW79:=bt HBW52 hb;have BX1_80:=qh (And.intro (BX1_53.o.1.below hb) BX1_53.o.2);have BX2_81:=qh (And.intro (EBx.new v49) HBW52.o.size);clear hb;generalize v49.alloc (.cells #[.int .i64 0,.string (S [])] 55)=v75 at *
      try simp only [qA,qB,qC,Act.put,qD,qE,qF]
      refine trd 6 fun K hK=>?_;go_simp;refine (a5h _ _ l t1 t2 k _ (HU.o.below (HBW.o.trans (HBW79.o.mono HBW.o.size))) (HT.o.str.below HBW79.o) hm ((HE.o.below (HBW.o.trans (HBW79.o.mono HBW.o.size)) HE.o.size).dic) oZ oZ).mono ?_;rintro e v82 ⟨nv,rfl,ho,hb⟩;rw [HRR.o]at ho⊢;simp only at ho⊢;unfold a2j;obtain⟨va,vc,rfl⟩:=a0j ho;have HAP1:=qh (show (.slice va nx.length vc:Value).ownBlock≠some (v0.heap.size) from fun k=>by have h1:=(World.ownsRow.lt ho _ k).1;have h2:=BX1_80.o.1.1;omega);have HAP2:=qh (show (.slice va nx.length vc:Value).ownBlock≠some (v49.heap.size) from fun k=>by have h1:=(World.ownsRow.lt ho _ k).1;have h2:=BX2_81.o.1.1;omega);refine hK.out _ _ (hS76.step (hb.mono HBW79.o.size) HLT.o) (fun hS83=>?_);clear hK K;have HBW84:=bt HBW79 hb;have BX1_85:=qh (And.intro (BX1_80.o.1.below hb) BX1_80.o.2);have BX2_86:=qh (And.intro (BX2_81.o.1.below hb) BX2_81.o.2);have HO_87:=qh (a1n ho HBW79.o.size);clear ho hb
      try simp only []
      refine tk1 7 hS83 ?_;refine tk1 8 hS83 ?_;refine tk1 9 hS83 ?_;refine tk1 10 hS83 ?_;refine trd 13 fun K hK=>?_;have hw1:=BX1_85.o.2;obtain⟨zb,cb0,cb1,fb0,fb1⟩:=BX1_85.o.1;go_simp;obtain⟨v88,hv88⟩:∃y,((v82.setCell ⟨v0.heap.size,0,none⟩ (.slice va nx.length vc)).setCell ⟨v0.heap.size,1,none⟩ (.string (S scr)))=y:=⟨_,rfl⟩;have hcg:Chg (fun k=>k=v0.heap.size) v82 v88:=by rw [←hv88];exact ((Chg.refl (fun k=>k=v0.heap.size) v82).setCell (p:=⟨v0.heap.size,0,none⟩) rfl _).setCell (p:=⟨v0.heap.size,1,none⟩) rfl _
      have hbox1:a0w v0.heap.size (.slice va nx.length vc) scr v88:=by rw [←hv88];exact a0w.set2 cb0 cb1 zb
      have hbw1:Below wr.heap.size wr v88:=Chg.a0x HBW84.o hcg HBW84.o.size (fun k h=>by have h9:k=v0.heap.size:=h;omega);have hst:RdS B w.heap.size g (og+j) (.slice ad l.length cap) (.slice ta t1.length tc) t2 k v88:=hS83.step (B:=wr.heap.size) (hcg.below HBW84.o.size (fun k h=>by have h9:k=v0.heap.size:=h;omega)) HLT.o;refine hK.out _ _ (by rw [hv88];exact hst) (fun hS89=>?_);clear hK K;rw [hv88]at hS89⊢
      try simp only [qA,qB,qC,Act.put,qD,qE,qF]
      have HO_90:=qh (a0g HO_87.o hcg (fun k hk h=>HAP1.o (by have h9:k=v0.heap.size:=h;rw [hk,h9])));have BX2_z:=qh (And.intro (BX2_86.o.1.a0c hcg oZ) BX2_86.o.2);have HBW91:=qh hbw1;clear hcg zb cb0 cb1 fb0 fb1 hst;refine trd 14 fun K hK=>?_;have hw2:=BX2_z.o.2;obtain⟨zb,cb0,cb1,fb0,fb1⟩:=BX2_z.o.1;go_simp;obtain⟨v92,hv92⟩:∃y,((v88.setCell ⟨v49.heap.size,0,none⟩ (.int .i64 en)).setCell ⟨v49.heap.size,1,none⟩ (.string (S et)))=y:=⟨_,rfl⟩;have hcg:Chg (fun k=>k=v49.heap.size) v88 v92:=by rw [←hv92];exact ((Chg.refl (fun k=>k=v49.heap.size) v88).setCell (p:=⟨v49.heap.size,0,none⟩) rfl _).setCell (p:=⟨v49.heap.size,1,none⟩) rfl _
      have hbox2:a0w v49.heap.size (.int .i64 en) et v92:=by rw [←hv92];exact a0w.set2 cb0 cb1 zb
      have hbw2:Below wr.heap.size wr v92:=Chg.a0x HBW91.o hcg HBW91.o.size (fun k h=>by have h9:k=v49.heap.size:=h;omega);have hst:RdS B w.heap.size g (og+j) (.slice ad l.length cap) (.slice ta t1.length tc) t2 k v92:=hS89.step (B:=wr.heap.size) (hcg.below HBW91.o.size (fun k h=>by have h9:k=v49.heap.size:=h;omega)) HLT.o;refine hK.out _ _ (by rw [hv92];exact hst) (fun hS93=>?_);clear hK K;rw [hv92]at hS93⊢
      try simp only [qA,qB,qC,Act.put,qD,qE,qF]
      have HO_94:=qh (a0g HO_90.o hcg (fun k hk h=>HAP2.o (by have h9:k=v49.heap.size:=h;rw [hk,h9])));have hbox1z:=hbox1.a0c hcg oZ;have HBW95:=qh hbw2;clear hcg zb cb0 cb1 fb0 fb1 hst;refine tk1 15 hS93 ?_;refine wpAnyH_done kZ ?_ _
      go_wp2_with fail
      go_meet;exact⟨v0.heap.size,v49.heap.size,va,vc,rfl,rfl,rfl,hbox1z,hbox2,HO_94.o,HBW95.o,by omega,by omega⟩
    ·skip;go_simp;have hb:=(Below.refl v0.heap.size v0).alloc lZ (.cells #[.int .i64 0,.string (S [])] 55);have zb98:v0.heap.size<(v0.alloc (.cells #[.int .i64 0,.string (S [])] 55)).heap.size:=by simp
     refine hK.out _ _ (hS0.step (hb.mono HBW0.o.size) HLT.o) (fun hS97=>?_);clear hK K;have HBW99:=bt HBW0 hb;have BX2_100:=qh (And.intro (EBx.new v0) HBW0.o.size);clear hb;generalize v0.alloc (.cells #[.int .i64 0,.string (S [])] 55)=v96 at *
     try simp only [qA,qB,qC,Act.put,qD,qE,qF]
     refine wpAnyH_ready (rs:=[6,11]) kZ sZ ?_;refine AllReadyH.cons rfl (fun K hK=>?_) (AllReadyH.cons rfl (fun K hK=>?_) AllReadyH.nil)
     ·skip;go_simp;refine (a5h _ _ l t1 t2 k _ (HU.o.below (HBW.o.trans (HBW99.o.mono HBW.o.size))) (HT.o.str.below HBW99.o) hm ((HE.o.below (HBW.o.trans (HBW99.o.mono HBW.o.size)) HE.o.size).dic) oZ oZ).mono ?_;rintro e v101 ⟨nv,rfl,ho,hb⟩;rw [HRR.o]at ho⊢;simp only at ho⊢;unfold a2j;obtain⟨va,vc,rfl⟩:=a0j ho;have HAP2:=qh (show (.slice va nx.length vc:Value).ownBlock≠some (v0.heap.size) from fun k=>by have h1:=(World.ownsRow.lt ho _ k).1;have h2:=BX2_100.o.1.1;omega);refine hK.out _ _ (hS97.step (hb.mono HBW99.o.size) HLT.o) (fun hS102=>?_);clear hK K;have HBW103:=bt HBW99 hb;have BX2_104:=qh (And.intro (BX2_100.o.1.below hb) BX2_100.o.2);have HO_105:=qh (a1n ho HBW99.o.size);clear ho hb
      try simp only []
      refine tk1 7 hS102 ?_;refine tk1 8 hS102 ?_;refine tk1 9 hS102 ?_;refine tk1 10 hS102 ?_;refine trd 11 fun K hK=>?_;go_simp;have hb:=(Below.refl v101.heap.size v101).alloc lZ (.cells #[.slice none 0 0,.string (S [])] 35);have zb108:v101.heap.size<(v101.alloc (.cells #[.slice none 0 0,.string (S [])] 35)).heap.size:=by simp
      have zc109:=BX2_104.o.1.1;have HAP1:=qh (show (.slice va nx.length vc:Value).ownBlock≠some (v101.heap.size) from fun k=>by have h1:=(World.ownsRow.lt HO_105.o _ k).2;omega);refine hK.out _ _ (hS102.step (hb.mono HBW103.o.size) HLT.o) (fun hS107=>?_);clear hK K;have HBW110:=bt HBW103 hb;have BX2_111:=qh (And.intro (BX2_104.o.1.below hb) BX2_104.o.2);have HO_112:=qh (a0k HO_105.o hb lZ);have BX1_113:=qh (And.intro (TBx.new (.slice none 0 0) [] v101) HBW103.o.size);clear hb;generalize v101.alloc (.cells #[.slice none 0 0,.string (S [])] 35)=v106 at *
      try simp only [qA,qB,qC,Act.put,qD,qE,qF]
      refine trd 13 fun K hK=>?_;have hw1:=BX1_113.o.2;obtain⟨zb,cb0,cb1,fb0,fb1⟩:=BX1_113.o.1;go_simp;obtain⟨v114,hv114⟩:∃y,((v106.setCell ⟨v101.heap.size,0,none⟩ (.slice va nx.length vc)).setCell ⟨v101.heap.size,1,none⟩ (.string (S scr)))=y:=⟨_,rfl⟩;have hcg:Chg (fun k=>k=v101.heap.size) v106 v114:=by rw [←hv114];exact ((Chg.refl (fun k=>k=v101.heap.size) v106).setCell (p:=⟨v101.heap.size,0,none⟩) rfl _).setCell (p:=⟨v101.heap.size,1,none⟩) rfl _
      have hbox1:a0w v101.heap.size (.slice va nx.length vc) scr v114:=by rw [←hv114];exact a0w.set2 cb0 cb1 zb
      have hbw1:Below wr.heap.size wr v114:=Chg.a0x HBW110.o hcg HBW110.o.size (fun k h=>by have h9:k=v101.heap.size:=h;omega);have hst:RdS B w.heap.size g (og+j) (.slice ad l.length cap) (.slice ta t1.length tc) t2 k v114:=hS107.step (B:=wr.heap.size) (hcg.below HBW110.o.size (fun k h=>by have h9:k=v101.heap.size:=h;omega)) HLT.o;refine hK.out _ _ (by rw [hv114];exact hst) (fun hS115=>?_);clear hK K;rw [hv114]at hS115⊢
      try simp only [qA,qB,qC,Act.put,qD,qE,qF]
      have HO_116:=qh (a0g HO_112.o hcg (fun k hk h=>HAP1.o (by have h9:k=v101.heap.size:=h;rw [hk,h9])));have BX2_z:=qh (And.intro (BX2_111.o.1.a0c hcg oZ) BX2_111.o.2);have HBW117:=qh hbw1;clear hcg zb cb0 cb1 fb0 fb1 hst;refine trd 14 fun K hK=>?_;have hw2:=BX2_z.o.2;obtain⟨zb,cb0,cb1,fb0,fb1⟩:=BX2_z.o.1;go_simp;obtain⟨v118,hv118⟩:∃y,((v114.setCell ⟨v0.heap.size,0,none⟩ (.int .i64 en)).setCell ⟨v0.heap.size,1,none⟩ (.string (S et)))=y:=⟨_,rfl⟩;have hcg:Chg (fun k=>k=v0.heap.size) v114 v118:=by rw [←hv118];exact ((Chg.refl (fun k=>k=v0.heap.size) v114).setCell (p:=⟨v0.heap.size,0,none⟩) rfl _).setCell (p:=⟨v0.heap.size,1,none⟩) rfl _
      have hbox2:a0w v0.heap.size (.int .i64 en) et v118:=by rw [←hv118];exact a0w.set2 cb0 cb1 zb
      have hbw2:Below wr.heap.size wr v118:=Chg.a0x HBW117.o hcg HBW117.o.size (fun k h=>by have h9:k=v0.heap.size:=h;omega);have hst:RdS B w.heap.size g (og+j) (.slice ad l.length cap) (.slice ta t1.length tc) t2 k v118:=hS115.step (B:=wr.heap.size) (hcg.below HBW117.o.size (fun k h=>by have h9:k=v0.heap.size:=h;omega)) HLT.o;refine hK.out _ _ (by rw [hv118];exact hst) (fun hS119=>?_);clear hK K;rw [hv118]at hS119⊢
      try simp only [qA,qB,qC,Act.put,qD,qE,qF]
      have HO_120:=qh (a0g HO_116.o hcg (fun k hk h=>HAP2.o (by have h9:k=v0.heap.size:=h;rw [hk,h9])));have hbox1z:=hbox1.a0c hcg oZ;have HBW121:=qh hbw2;clear hcg zb cb0 cb1 fb0 fb1 hst;refine tk1 15 hS119 ?_;refine wpAnyH_done kZ ?_ _
      go_wp2_with fail
      go_meet;exact⟨v101.heap.size,v0.heap.size,va,vc,rfl,rfl,rfl,hbox1z,hbox2,HO_120.o,HBW121.o,by omega,by omega⟩
     ·skip;go_simp;have hb:=(Below.refl v96.heap.size v96).alloc lZ (.cells #[.slice none 0 0,.string (S [])] 35);have zb124:v96.heap.size<(v96.alloc (.cells #[.slice none 0 0,.string (S [])] 35)).heap.size:=by simp
      have zc125:=BX2_100.o.1.1;refine hK.out _ _ (hS97.step (hb.mono HBW99.o.size) HLT.o) (fun hS123=>?_);clear hK K;have HBW126:=bt HBW99 hb;have BX2_127:=qh (And.intro (BX2_100.o.1.below hb) BX2_100.o.2);have BX1_128:=qh (And.intro (TBx.new (.slice none 0 0) [] v96) HBW99.o.size);clear hb;generalize v96.alloc (.cells #[.slice none 0 0,.string (S [])] 35)=v122 at *
      try simp only [qA,qB,qC,Act.put,qD,qE,qF]
      refine trd 6 fun K hK=>?_;go_simp;refine (a5h _ _ l t1 t2 k _ (HU.o.below (HBW.o.trans (HBW126.o.mono HBW.o.size))) (HT.o.str.below HBW126.o) hm ((HE.o.below (HBW.o.trans (HBW126.o.mono HBW.o.size)) HE.o.size).dic) oZ oZ).mono ?_;rintro e v129 ⟨nv,rfl,ho,hb⟩;rw [HRR.o]at ho⊢;simp only at ho⊢;unfold a2j;obtain⟨va,vc,rfl⟩:=a0j ho;have HAP2:=qh (show (.slice va nx.length vc:Value).ownBlock≠some (v0.heap.size) from fun k=>by have h1:=(World.ownsRow.lt ho _ k).1;have h2:=BX2_127.o.1.1;omega);have HAP1:=qh (show (.slice va nx.length vc:Value).ownBlock≠some (v96.heap.size) from fun k=>by have h1:=(World.ownsRow.lt ho _ k).1;have h2:=BX1_128.o.1.1;omega);refine hK.out _ _ (hS123.step (hb.mono HBW126.o.size) HLT.o) (fun hS130=>?_);clear hK K;have HBW131:=bt HBW126 hb;have BX2_132:=qh (And.intro (BX2_127.o.1.below hb) BX2_127.o.2);have BX1_133:=qh (And.intro (BX1_128.o.1.below hb) BX1_128.o.2);have HO_134:=qh (a1n ho HBW126.o.size);clear ho hb
      try simp only []
      refine tk1 7 hS130 ?_;refine tk1 8 hS130 ?_;refine tk1 9 hS130 ?_;refine tk1 10 hS130 ?_;refine trd 13 fun K hK=>?_;have hw1:=BX1_133.o.2;obtain⟨zb,cb0,cb1,fb0,fb1⟩:=BX1_133.o.1;go_simp;obtain⟨v135,hv135⟩:∃y,((v129.setCell ⟨v96.heap.size,0,none⟩ (.slice va nx.length vc)).setCell ⟨v96.heap.size,1,none⟩ (.string (S scr)))=y:=⟨_,rfl⟩;have hcg:Chg (fun k=>k=v96.heap.size) v129 v135:=by rw [←hv135];exact ((Chg.refl (fun k=>k=v96.heap.size) v129).setCell (p:=⟨v96.heap.size,0,none⟩) rfl _).setCell (p:=⟨v96.heap.size,1,none⟩) rfl _
      have hbox1:a0w v96.heap.size (.slice va nx.length vc) scr v135:=by rw [←hv135];exact a0w.set2 cb0 cb1 zb
      have hbw1:Below wr.heap.size wr v135:=Chg.a0x HBW131.o hcg HBW131.o.size (fun k h=>by have h9:k=v96.heap.size:=h;omega);have hst:RdS B w.heap.size g (og+j) (.slice ad l.length cap) (.slice ta t1.length tc) t2 k v135:=hS130.step (B:=wr.heap.size) (hcg.below HBW131.o.size (fun k h=>by have h9:k=v96.heap.size:=h;omega)) HLT.o;refine hK.out _ _ (by rw [hv135];exact hst) (fun hS136=>?_);clear hK K;rw [hv135]at hS136⊢
      try simp only [qA,qB,qC,Act.put,qD,qE,qF]
      have HO_137:=qh (a0g HO_134.o hcg (fun k hk h=>HAP1.o (by have h9:k=v96.heap.size:=h;rw [hk,h9])));have BX2_z:=qh (And.intro (BX2_132.o.1.a0c hcg oZ) BX2_132.o.2);have HBW138:=qh hbw1;clear hcg zb cb0 cb1 fb0 fb1 hst;refine trd 14 fun K hK=>?_;have hw2:=BX2_z.o.2;obtain⟨zb,cb0,cb1,fb0,fb1⟩:=BX2_z.o.1;go_simp;obtain⟨v139,hv139⟩:∃y,((v135.setCell ⟨v0.heap.size,0,none⟩ (.int .i64 en)).setCell ⟨v0.heap.size,1,none⟩ (.string (S et)))=y:=⟨_,rfl⟩;have hcg:Chg (fun k=>k=v0.heap.size) v135 v139:=by rw [←hv139];exact ((Chg.refl (fun k=>k=v0.heap.size) v135).setCell (p:=⟨v0.heap.size,0,none⟩) rfl _).setCell (p:=⟨v0.heap.size,1,none⟩) rfl _
      have hbox2:a0w v0.heap.size (.int .i64 en) et v139:=by rw [←hv139];exact a0w.set2 cb0 cb1 zb
      have hbw2:Below wr.heap.size wr v139:=Chg.a0x HBW138.o hcg HBW138.o.size (fun k h=>by have h9:k=v0.heap.size:=h;omega);have hst:RdS B w.heap.size g (og+j) (.slice ad l.length cap) (.slice ta t1.length tc) t2 k v139:=hS136.step (B:=wr.heap.size) (hcg.below HBW138.o.size (fun k h=>by have h9:k=v0.heap.size:=h;omega)) HLT.o;refine hK.out _ _ (by rw [hv139];exact hst) (fun hS140=>?_);clear hK K;rw [hv139]at hS140⊢
      try simp only [qA,qB,qC,Act.put,qD,qE,qF]
      have HO_141:=qh (a0g HO_137.o hcg (fun k hk h=>HAP2.o (by have h9:k=v0.heap.size:=h;rw [hk,h9])));have hbox1z:=hbox1.a0c hcg oZ;have HBW142:=qh hbw2;clear hcg zb cb0 cb1 fb0 fb1 hst;refine tk1 15 hS140 ?_;refine wpAnyH_done kZ ?_ _
      go_wp2_with fail
      go_meet;exact⟨v96.heap.size,v0.heap.size,va,vc,rfl,rfl,rfl,hbox1z,hbox2,HO_141.o,HBW142.o,by omega,by omega⟩
   case rest=>
    obtain⟨b1,b2,va,vc,rfl,rfl,rfl,hx1,hx2,ho,hb,hw1,hw2⟩:=hcut;have HT3:=qh (HT.o.below hb);have HB3:=bt HBW hb;have HX1:=qh hx1;have HOW:=qh ho;have HBB:=qh hb;have hzz:=hb.size;generalize hww:wc=w3 at *;clear hww hb ho hx1 hx2 HRD
    cases ok
    ·have HP:=qh (P.d1x (s:=(l,(st,sc))) (o:=o) (by rw [HN1.o,HRR.o];rfl));go_wp2;go_ret2;exact HSM.o.keep (x:=[]) HB3.o HP.o
    ·have htr:P.trans l (nx,scr)=true:=by have h:=P.b1o (d:=l) (t:=(t1,t2)) (k:=k) (by rw [HRR.o]);rw [HRR.o]at h;exact h
     have hnl:=(P.a4h htr).1;simp only at hnl;have HT4:=qh (HT.o.store (t':=(nx,scr)) (nv:=.slice va nx.length vc) HBB.o hz3 HOW.o htr (by simp only;omega));obtain⟨k1,k2,_⟩:=HX1.o;obtain⟨zb,c0,c1,f0,f1⟩:=HT3.o.box;clear HT HT3 HB3 HXW;go_wp2
     go_roundw
     case rel=>exact⟨j+1,(nx,scr),.slice va nx.length vc,by omega,by go_num,by rw [HN1.o,HRR.o];rfl,HT4.o⟩
     case measure=>simp [intOf];omega
  ·have hjl:j=o.length:=by omega
   subst hjl;have HP:=qh (show P.typed (l,(st,sc)) o=((l,(t1,t2)),some (P.fmtE (P.least sc t2))) from P.c7n (s:=(l,(st,sc))) (HRUN.o.trans P.c9r));obtain⟨hl1,hl2⟩:=HSP.o;have HED:=qh (show P.a3d (P.least sc t2)=true from P.a9g (P.a2c HT0S.o) (P.a2c HT.o.tra));obtain⟨x,et,hE⟩:∃x et,P.least sc t2=(x,et):=⟨_,_,rfl⟩;have HLE:=qh hE;rw [hE]at HP HED;clear hE;have HRC:=qh (show wr.drew.cell? ⟨B,2,none⟩=some (.string (S sc))∧wr.drew.cell? ⟨w.heap.size,1,none⟩=some (.string (S t2))∧B<wr.drew.heap.size∧w.heap.size<wr.drew.heap.size from⟨HXW.o.1.2.2.1,HT.o.box.2.2.1,HXW.o.1.2.2.2.2.2.2,hbz⟩)
   go_upto_region 10 with fail
   go_cut [12] (fun ep wx=>∃be,ep=.pointer (some ⟨be,0,none⟩)∧a0w be (.int .i64 x) et wx∧Below wr.heap.size wr wx∧wr.heap.size≤be)
   case first=>
    have HBW0:=qh (show Below wr.heap.size wr wr.drew from bZ.drew);refine wp_region_held_drew (S:=fun v=>v.cell? ⟨B,2,none⟩=some (.string (S sc))∧v.cell? ⟨w.heap.size,1,none⟩=some (.string (S t2))∧B<v.heap.size∧w.heap.size<v.heap.size) kZ HRC.o (fun hS0=>?_);generalize wr.drew=v0 at *;refine tk1 0 hS0 ?_;refine tk1 1 hS0 ?_;refine tk1 2 hS0 ?_;refine tk1 3 hS0 ?_;refine tk1 4 hS0 ?_;refine tk1 5 hS0 ?_;refine tk1 6 hS0 ?_;refine wpAnyH_ready (rs:=[7,8]) kZ sZ ?_;refine AllReadyH.cons rfl (fun K hK=>?_) (AllReadyH.cons rfl (fun K hK=>?_) AllReadyH.nil)
    ·skip;go_simp;refine (a6x sc t2 _ oZ oZ).mono ?_;rintro e v1 ⟨rfl,hb⟩;rw [HLE.o];have hS1:v1.cell? ⟨B,2,none⟩=some (.string (S sc))∧v1.cell? ⟨w.heap.size,1,none⟩=some (.string (S t2))∧B<v1.heap.size∧w.heap.size<v1.heap.size:=⟨(hb.cell (p:=⟨B,2,none⟩) hS0.2.2.1).trans hS0.1,(hb.cell (p:=⟨w.heap.size,1,none⟩) hS0.2.2.2).trans hS0.2.1,Nat.lt_of_lt_of_le hS0.2.2.1 hb.size,Nat.lt_of_lt_of_le hS0.2.2.2 hb.size⟩;have HB1:=bt HBW0 hb;have hz1:=HB1.o.size;refine hK.out _ _ hS1 (fun hS2=>?_);clear hK K hb
     try simp only []
     refine trd 8 fun K hK=>?_;go_simp;have hba:=(Below.refl v1.heap.size v1).alloc lZ (.cells #[.int .i64 0,.string (S [])] 55);have HBX:=qh (EBx.new v1);have hS3:(v1.alloc (.cells #[.int .i64 0,.string (S [])] 55)).cell? ⟨B,2,none⟩=some (.string (S sc))∧(v1.alloc (.cells #[.int .i64 0,.string (S [])] 55)).cell? ⟨w.heap.size,1,none⟩=some (.string (S t2))∧B<(v1.alloc (.cells #[.int .i64 0,.string (S [])] 55)).heap.size∧w.heap.size<(v1.alloc (.cells #[.int .i64 0,.string (S [])] 55)).heap.size:=⟨(hba.cell (p:=⟨B,2,none⟩) hS2.2.2.1).trans hS2.1,(hba.cell (p:=⟨w.heap.size,1,none⟩) hS2.2.2.2).trans hS2.2.1,Nat.lt_of_lt_of_le hS2.2.2.1 hba.size,Nat.lt_of_lt_of_le hS2.2.2.2 hba.size⟩;have HB2:=bt HB1 hba;refine hK.out _ _ hS3 (fun hS4=>?_);clear hK K hba;generalize v1.alloc (.cells #[.int .i64 0,.string (S [])] 55)=v2 at *
     try simp only [qA,qB,qC,Act.put,qD,qE,qF]
     refine trd 9 fun K hK=>?_;obtain⟨zb,cb0,cb1,fb0,fb1⟩:=HBX.o;go_simp;obtain⟨y9,hy9⟩:∃y,((v2.setCell ⟨v1.heap.size,0,none⟩ (.int .i64 x)).setCell ⟨v1.heap.size,1,none⟩ (.string (S et)))=y:=⟨_,rfl⟩;have hcg:Chg (fun k=>k=v1.heap.size) v2 y9:=by rw [←hy9];exact ((Chg.refl (fun k=>k=v1.heap.size) v2).setCell (p:=⟨v1.heap.size,0,none⟩) rfl _).setCell (p:=⟨v1.heap.size,1,none⟩) rfl _
     have hbox:a0w v1.heap.size (.int .i64 x) et y9:=by rw [←hy9];exact a0w.set2 cb0 cb1 zb
     have hbw:Below wr.heap.size wr y9:=Chg.a0x HB2.o hcg (Nat.le_trans lZ HB2.o.size) (fun k h=>by have h9:k=v1.heap.size:=h;omega);refine hK.out _ _ (by (try rw [hy9]);exact⟨(hcg.cell (p:=⟨B,2,none⟩) hS4.2.2.1 (by show ¬B=v1.heap.size;omega)).trans hS4.1,(hcg.cell (p:=⟨w.heap.size,1,none⟩) hS4.2.2.2 (by show ¬w.heap.size=v1.heap.size;omega)).trans hS4.2.1,Nat.lt_of_lt_of_le hS4.2.2.1 hcg.size,Nat.lt_of_lt_of_le hS4.2.2.2 hcg.size⟩) (fun hS9=>?_);clear hK K
     try rw [hy9]at hS9⊢
     try simp only [qA,qB,qC,Act.put,qD,qE,qF]
     refine wpAnyH_done kZ ?_ _
     go_wp2_with fail
     go_meet;exact⟨v1.heap.size,rfl,hbox,hbw,by omega⟩
    ·skip;go_simp;have hba:=(Below.refl v0.heap.size v0).alloc lZ (.cells #[.int .i64 0,.string (S [])] 55);have HBX:=qh (EBx.new v0);have hS3:(v0.alloc (.cells #[.int .i64 0,.string (S [])] 55)).cell? ⟨B,2,none⟩=some (.string (S sc))∧(v0.alloc (.cells #[.int .i64 0,.string (S [])] 55)).cell? ⟨w.heap.size,1,none⟩=some (.string (S t2))∧B<(v0.alloc (.cells #[.int .i64 0,.string (S [])] 55)).heap.size∧w.heap.size<(v0.alloc (.cells #[.int .i64 0,.string (S [])] 55)).heap.size:=⟨(hba.cell (p:=⟨B,2,none⟩) hS0.2.2.1).trans hS0.1,(hba.cell (p:=⟨w.heap.size,1,none⟩) hS0.2.2.2).trans hS0.2.1,Nat.lt_of_lt_of_le hS0.2.2.1 hba.size,Nat.lt_of_lt_of_le hS0.2.2.2 hba.size⟩;have HB2:=bt HBW0 hba;have hz1:=HBW0.o.size;refine hK.out _ _ hS3 (fun hS4=>?_);clear hK K hba;generalize v0.alloc (.cells #[.int .i64 0,.string (S [])] 55)=v2 at *
     try simp only [qA,qB,qC,Act.put,qD,qE,qF]
     refine trd 7 fun K hK=>?_;go_simp;refine (a6x sc t2 _ oZ oZ).mono ?_;rintro e v1 ⟨rfl,hb⟩;rw [HLE.o];have hS1:v1.cell? ⟨B,2,none⟩=some (.string (S sc))∧v1.cell? ⟨w.heap.size,1,none⟩=some (.string (S t2))∧B<v1.heap.size∧w.heap.size<v1.heap.size:=⟨(hb.cell (p:=⟨B,2,none⟩) hS4.2.2.1).trans hS4.1,(hb.cell (p:=⟨w.heap.size,1,none⟩) hS4.2.2.2).trans hS4.2.1,Nat.lt_of_lt_of_le hS4.2.2.1 hb.size,Nat.lt_of_lt_of_le hS4.2.2.2 hb.size⟩;have HB1:=bt HB2 hb;have HBX1:=qh (HBX.o.below hb);refine hK.out _ _ hS1 (fun hS2=>?_);clear hK K hb
     try simp only []
     refine trd 9 fun K hK=>?_;obtain⟨zb,cb0,cb1,fb0,fb1⟩:=HBX1.o;go_simp;obtain⟨y9,hy9⟩:∃y,((v1.setCell ⟨v0.heap.size,0,none⟩ (.int .i64 x)).setCell ⟨v0.heap.size,1,none⟩ (.string (S et)))=y:=⟨_,rfl⟩;have hcg:Chg (fun k=>k=v0.heap.size) v1 y9:=by rw [←hy9];exact ((Chg.refl (fun k=>k=v0.heap.size) v1).setCell (p:=⟨v0.heap.size,0,none⟩) rfl _).setCell (p:=⟨v0.heap.size,1,none⟩) rfl _
     have hbox:a0w v0.heap.size (.int .i64 x) et y9:=by rw [←hy9];exact a0w.set2 cb0 cb1 zb
     have hbw:Below wr.heap.size wr y9:=Chg.a0x HB1.o hcg (Nat.le_trans lZ HB1.o.size) (fun k h=>by have h9:k=v0.heap.size:=h;omega);refine hK.out _ _ (by (try rw [hy9]);exact⟨(hcg.cell (p:=⟨B,2,none⟩) hS2.2.2.1 (by show ¬B=v0.heap.size;omega)).trans hS2.1,(hcg.cell (p:=⟨w.heap.size,1,none⟩) hS2.2.2.2 (by show ¬w.heap.size=v0.heap.size;omega)).trans hS2.2.1,Nat.lt_of_lt_of_le hS2.2.2.1 hcg.size,Nat.lt_of_lt_of_le hS2.2.2.2 hcg.size⟩) (fun hS9=>?_);clear hK K
     try rw [hy9]at hS9⊢
     try simp only [qA,qB,qC,Act.put,qD,qE,qF]
     refine wpAnyH_done kZ ?_ _
     go_wp2_with fail
     go_meet;exact⟨v0.heap.size,rfl,hbox,hbw,by omega⟩
   case rest=>
    obtain⟨be,rfl,hbx,hb,hbe⟩:=hcut;generalize hww:wc=w3 at *;clear hww;have HT4:=qh (HT.o.below hb);have HX4:=qh (HXW.o.below hb);have HB4:=bt HBW hb;have HE4:=qh hbx;have hz4:=hb.size;clear hb hbx HT HXW HRC;obtain⟨⟨o0,o1,o2,o3,o4,o5,o6⟩,g0,g1,g2,g3,g4,g5⟩:=HX4.o;obtain⟨zb,c0,c1,f0,f1⟩:=HT4.o.box;obtain⟨w5,hw5⟩:∃v,(w3.setCell ⟨B,1,none⟩ (.slice ta t1.length tc)).setCell ⟨B,2,none⟩ (.string (S t2))=v:=⟨_,rfl⟩;have hset:Chg (fun b=>b=B) w3 w5:=by rw [←hw5];exact ((Chg.refl (fun b=>b=B) w3).setCell (p:=⟨B,1,none⟩) rfl _).setCell (p:=⟨B,2,none⟩) rfl _
    have HROW:=qh (show a2s lo B w3 (.slice ad l.length cap) (.slice ta t1.length tc) l t1 from by
     rcases HT4.o.own with⟨e1,e2⟩|ho
     ·simp only at e2;rw [e1,e2];exact HSR.o.below HB4.o
     ·exact HSR.o.a6n HB4.o (Nat.le_succ _) hlo hBz ho (by show t1.length≤_;omega))
    have HSM5:=qh (show SesM lo B (l,(t1,t2)) (d,p,n) w5 from⟨hEB,Nat.le_trans hlo (Nat.le_trans HB4.o.size hset.size),_,_,by rw [←hw5];exact HX4.o.set1 (x:=(.slice ta t1.length tc)) (r:=t2),HROW.o.a0c hset (fun b h=>.inl h)⟩);have HE5:=qh (HE4.o.a0c hset oZ);have HC5:=qh (show Chg (fun b=>b=B) w w5 from (Below.chg HB4.o _).trans hset);have HEN:=qh (L.Env.chgB HE.o hEB HC5.o)
    go_upto_region 12 with fail
    try rw [hw5]
    clear o0 o1 o2 o3 o4 o5 o6 g0 g1 g2 g3 g4 g5 zb c0 c1 f0 f1 hset hw5 HX4 HE4 HB4;obtain⟨e0,e1,_⟩:=HE5.o
    go_wp2_with fail
    refine (a2f x et _ HED.o HEN.o).mono ?_;rintro e w6 ⟨rfl,hb⟩;have HC6:=qh (HC5.o.trans (Below.chg hb _));have HS6:=qh (HSM5.o.below hb);clear hb e0 e1;go_wp2;go_ret2;exact⟨P.fmtE (x,et),true,rfl,by rw [HP.o];rfl,by rw [HP.o];exact HS6.o,HC6.o⟩
end Go.Proofs.YtggfdnopminemaaGreatDoor
