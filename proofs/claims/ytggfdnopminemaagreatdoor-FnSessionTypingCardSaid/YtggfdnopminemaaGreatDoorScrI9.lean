/- Walks: an entry redefined (program). -/
import Derived.Test.YtggfdnopminemaaGreatDoorZt
import Derived.Test.YtggfdnopminemaaGreatDoorScrI8
set_option linter.all false
namespace Go.Proofs.YtggfdnopminemaaGreatDoor
namespace P
def a3y (d:Dic) (t:Tr) (e:Ent):((Dic×Tr)×Edit)×Bool:=if trans d t&&(a6l e d&&(scr (putF e false d) t.1).2) then (((putF e false d,(t.1,(scr (putF e false d) t.1).1)),least t.2 (scr (putF e false d) t.1).1),true) else ((([],tr0),(0,[])),false)
theorem c8a {d:Dic} {t:Tr} (h:trans d t=true):dic d=true:=by
 exact zq54
theorem d0d {e:Ent} {l:Dic} (h:a6l e l=true):dic (putF e false l)=true:=by
 unfold a6l at h;simp only [Bool.and_eq_true]at h;rw [c7r h.1 h.2.1];exact h.2.2
theorem b1m {d:Dic} (h:dic d=true):∀e∈d,e.2.length≤60:=fun e he=>by
 have h1:=(a5g h).2.1 e he;unfold entry at h1;simp only [Bool.and_eq_true]at h1;exact b1h h1.2
theorem b5v {d:Dic} {t:Tr} {e:Ent} (h:(trans d t&&(a6l e d&&(scr (putF e false d) t.1).2))=false):a3y d t e=((([],tr0),(0,[])),false):=by
 unfold a3y;rw [h];rfl
theorem d1o {d:Dic} {t:Tr} {e:Ent} (h:trans d t=true) (h2:a6l e d=true) (h3:(scr (putF e false d) t.1).2=true):a3y d t e=(((putF e false d,(t.1,(scr (putF e false d) t.1).1)),least t.2 (scr (putF e false d) t.1).1),true):=by
 unfold a3y;rw [h,h2,h3];rfl
end P
open Go Go.RowKit
set_option maxHeartbeats 8000000
set_option maxRecDepth 100000
theorem b6n {l:P.Dic} (h:P.dic l=true):Small l:=c7o h fun e he=>Nat.le_trans (P.b1m h e he) dZ
def c9c (r:((P.Dic×P.Tr)×P.Edit)×Bool) (w:World) (e:Ending) (w':World):Prop:=
 ∃u us m,e=.returned (.tuple #[.agg #[u],a1v us r.1.1.2.2,a2j r.1.2,.bool r.2])∧Ents w' (Bet w.heap.size m) u r.1.1.1∧OwnK m w' us r.1.1.2.1∧w.heap.size≤m∧m≤w'.heap.size∧Below w.heap.size w w'
def RxBx (b:Nat) (dv sv x:Value) (t et:Str) (v:World):Prop:=
 v.cell? ⟨b,0,none⟩=some dv∧TBx (b+1) sv t v∧a0w (b+1+1) x et v∧NBx (b+1+1+1) v∧TBx (b+1+1+1+1) (.slice none 0 0) [] v∧EBx (b+1+1+1+1+1) v
theorem RxBx.below {b:Nat} {dv sv x:Value} {t et:Str} {v v':World} (h:RxBx b dv sv x t et v) (hb:Below v.heap.size v v'):RxBx b dv sv x t et v':=
 ⟨(hb.cell (p:=⟨b,0,none⟩) (by have:=h.2.1.1;show b<_;omega)).trans h.1,h.2.1.below hb,h.2.2.1.below hb,h.2.2.2.1.below hb,h.2.2.2.2.1.below hb,h.2.2.2.2.2.below hb⟩
def RdR (a b:Nat) (dv sv:Value) (t:Str) (v:World):Prop:=v.cell? ⟨b,0,none⟩=some dv∧v.cell? ⟨a+1,0,none⟩=some sv∧v.cell? ⟨a+1,1,none⟩=some (.string (S t))∧(b<v.heap.size∧a+1<v.heap.size)
theorem RdR.a0c {a b:Nat} {dv sv:Value} {t:Str} {v v':World} {X:Blk} (h:RdR a b dv sv t v) (hc:Chg X v v') (h0:¬X b) (h1:¬X (a+1)):RdR a b dv sv t v':=
 ⟨(hc.cell (p:=⟨b,0,none⟩) h.2.2.2.1 h0).trans h.1,(hc.cell (p:=⟨a+1,0,none⟩) h.2.2.2.2 h1).trans h.2.1,(hc.cell (p:=⟨a+1,1,none⟩) h.2.2.2.2 h1).trans h.2.2.1,Nat.lt_of_lt_of_le h.2.2.2.1 hc.size,Nat.lt_of_lt_of_le h.2.2.2.2 hc.size⟩
theorem RdR.below {a b:Nat} {dv sv:Value} {t:Str} {v v':World} (h:RdR a b dv sv t v) (hb:Below v.heap.size v v'):RdR a b dv sv t v':=h.a0c (Below.chg hb fun _=>False) (fun h=>h) (fun h=>h)
theorem a1d (dv sv x:Value) (l:P.Dic) (st:List Int) (t:Str) (o:List Int) (et:Str) (w:World) (hu:EntR w dv l) (hs:IntR w sv st) (ho:IntR w x o) (hm:Small l) (h1:o.length≤2^20) (h2:et.length≤2^30) (hE:Env w) :
 Calls Tryz.prog 212 #[.agg #[dv],a1v sv t,.agg #[x,.string (S et)]] w (c9c (P.a3y l (st,t) (o,et)) w):=by
 have HU:=qh hu;have HST:=qh hs;have HO:=qh ho
 have HE:=qh hE
 have H1:=qh h1;have H2:=qh h2
 clear h1 h2
 obtain⟨ad,cap,rfl,_,_⟩:=hu
 obtain⟨sd,sc,rfl,hsl,_⟩:=hs
 obtain⟨oa,oc,rfl,_,_⟩:=ho
 have HB0:=qh (show Below w.heap.size w ((((((w.alloc (.cells #[.slice ad l.length cap] 26)).alloc (.cells #[.slice sd st.length sc,.string (S t)] 35)).alloc (.cells #[.slice oa o.length oc,.string (S et)] 119)).alloc (.cells #[.slice none 0 0] 26)).alloc (.cells #[.slice none 0 0,.string (S [])] 35)).alloc (.cells #[.int .i64 0,.string (S [])] 55)) from ((((((Below.refl w.heap.size w).alloc lZ _).alloc sZ _).alloc (by simp;omega) _).alloc (by simp;omega) _).alloc (by simp;omega) _).alloc (by simp;omega) _)
 have HX0:=qh (show RxBx w.heap.size (.slice ad l.length cap) (.slice sd st.length sc) (.slice oa o.length oc) t et ((((((w.alloc (.cells #[.slice ad l.length cap] 26)).alloc (.cells #[.slice sd st.length sc,.string (S t)] 35)).alloc (.cells #[.slice oa o.length oc,.string (S et)] 119)).alloc (.cells #[.slice none 0 0] 26)).alloc (.cells #[.slice none 0 0,.string (S [])] 35)).alloc (.cells #[.int .i64 0,.string (S [])] 55)) from⟨by go_simp,⟨by simp<;>omega,by go_simp,by go_simp,by go_simp,by go_simp⟩,⟨by go_simp,by go_simp,by simp<;>omega⟩,⟨by go_simp,by go_simp,by simp<;>omega⟩,⟨by simp<;>omega,by go_simp,by go_simp,by go_simp,by go_simp⟩,⟨by simp,by go_simp,by go_simp,by go_simp,by go_simp⟩⟩)
 have HZ0:=qh (show ((((((w.alloc (.cells #[.slice ad l.length cap] 26)).alloc (.cells #[.slice sd st.length sc,.string (S t)] 35)).alloc (.cells #[.slice oa o.length oc,.string (S et)] 119)).alloc (.cells #[.slice none 0 0] 26)).alloc (.cells #[.slice none 0 0,.string (S [])] 35)).alloc (.cells #[.int .i64 0,.string (S [])] 55)).heap.size=w.heap.size+6 by simp)
 unfold a1v
 go_enter Tryz.func212,Tryz.ntmps212
 go_upto_region 1 with (fail)
 generalize ((((((w.alloc (.cells #[.slice ad l.length cap] 26)).alloc (.cells #[.slice sd st.length sc,.string (S t)] 35)).alloc (.cells #[.slice oa o.length oc,.string (S et)] 119)).alloc (.cells #[.slice none 0 0] 26)).alloc (.cells #[.slice none 0 0,.string (S [])] 35)).alloc (.cells #[.int .i64 0,.string (S [])] 55))=W0 at *
 obtain⟨k0,⟨_,k1,k2,_⟩,_⟩:=HX0.o
 go_wp2_with fail
 refine (a1x _ _ l st t _ (HU.o.below HB0.o) (HST.o.below HB0.o) hm (HE.o.below HB0.o HE.o.size)).mono ?_
 rintro e w1 ⟨rfl,hb⟩
 have HB1:=bt HB0 hb;have HX1:=qh (HX0.o.below hb)
 have hz1:w.heap.size+6≤w1.heap.size:=by have h1:=hb.size;have h2:=HZ0.o;omega
 clear hb k0 k1 k2 HB0 HX0 HZ0
 cases hd:P.trans l (st,t)
 ·have HP:=qh (P.b5v (d:=l) (t:=(st,t)) (e:=(o,et)) (by rw [hd];rfl));clear hd;obtain⟨_,_,_,⟨k3,k4,_⟩,⟨_,k5,k6,k7,k8⟩,⟨_,k9,k10,k11,k12⟩⟩:=HX1.o;go_wp2;refine bodyPost_ret (v:=.tuple #[.agg #[.slice none 0 0],a1v (.slice none 0 0) [],a2j (0,[]),.bool false]) (by simp [a1v,a2j,k3,k5,k6,k9,k10,results,Tryz.results212,go_sem]) rfl ⟨.slice none 0 0,.slice none 0 0,w.heap.size,by rw [HP.o];rfl,by rw [HP.o];exact RowO.nil _ _,by rw [HP.o];exact World.ownsRow_nil _ _ _ _,Nat.le_refl _,?_,?_⟩
  ·have h9:=HB1.o.size;simp only [World.setCell,Array.size_modify];omega
  ·exact (((((HB1.o.setCell (by simp<;>omega) _).setCell (by simp<;>omega) _).setCell (by simp<;>omega) _).setCell (by simp<;>omega) _).setCell (by simp<;>omega) _)
 ·have HD:=qh hd;obtain⟨hl60,hl2⟩:=P.a4h hd;simp only at hl60 hl2;clear hd;obtain⟨k0,_,⟨k1,k2,_⟩,_⟩:=HX1.o
  go_wp2_with fail
  refine (c0z _ _ l o et _ (HU.o.below HB1.o) (HO.o.below HB1.o) hm H1.o H2.o (HE.o.below HB1.o HE.o.size)).mono ?_;rintro e w2 ⟨u,rfl,hI,hb⟩;have HB2:=bt HB1 hb;have HX2:=qh (HX1.o.below hb);have hz2:w1.heap.size≤w2.heap.size:=hb.size;have HI:=qh hI;obtain⟨ua,uc,rfl,_,_⟩:=hI;have HNO:=qh (P.b5v (d:=l) (t:=(st,t)) (e:=(o,et)));have HYES:=qh (P.d1o (d:=l) (t:=(st,t)) (e:=(o,et)) HD.o);have HID:=qh (fun h:P.a6l (o,et) l=true=>b6n (P.d0d h));clear hb k0 k1 k2 HB1 HX1;obtain⟨ok,hok⟩:∃ok,P.a6l (o,et) l=ok:=⟨_,rfl⟩;rw [hok]at HI HNO HYES HID⊢;have HOK:=qh hok;clear hok
  have HBS:=qh (show Small (P.kept ok (P.putF (o,et) false l)) by
   cases ok
   ·exact⟨Nat.zero_le _,fun e he=>(by cases he),fun e he=>(by cases he)⟩
   ·exact HID.o rfl)
  have HKE:=qh (show ok=true→P.kept ok (P.putF (o,et) false l)=P.putF (o,et) false l from fun h=>by rw [h];rfl);generalize P.kept ok (P.putF (o,et) false l)=bk at *;have HDB:=qh (show (w2.alloc (.cells #[.slice ua bk.length uc] 26)).cell? ⟨w2.heap.size,0,none⟩=some (.slice ua bk.length uc)∧w2.heap.size<(w2.alloc (.cells #[.slice ua bk.length uc] 26)).heap.size from⟨by go_simp,by simp⟩);have hba:=(Below.refl w2.heap.size w2).alloc lZ (.cells #[.slice ua bk.length uc] 26);have HB3:=bt HB2 hba;have HX3:=qh (HX2.o.below hba);have HI3:=qh (HI.o.below a0e hba);have hz3:w2.heap.size<(w2.alloc (.cells #[.slice ua bk.length uc] 26)).heap.size:=by simp
  clear hba HB2 HX2 HI
  go_upto_region 4 with fail
  generalize w2.alloc (.cells #[.slice ua bk.length uc] 26)=w3 at *;obtain⟨_,⟨_,k1,k2,_⟩,_⟩:=HX3.o;have k0:=HDB.o.1
  go_wp2_with fail
  refine (a3c _ _ bk st _ (Ents.read HI3.o) (HST.o.below HB3.o) HBS.o (HE.o.below HB3.o HE.o.size)).mono ?_;rintro e w4 ⟨rfl,hb⟩;have HB4:=bt HB3 hb;have HX4:=qh (HX3.o.below hb);have HI4:=qh (HI3.o.below a0e hb);have hz4:w3.heap.size≤w4.heap.size:=hb.size;have HDB:=qh (show w4.cell? ⟨w2.heap.size,0,none⟩=some (.slice ua bk.length uc)∧w2.heap.size<w4.heap.size from⟨(hb.cell (p:=⟨w2.heap.size,0,none⟩) hz3).trans HDB.o.1,by omega⟩);clear hb k0 k1 k2 HB3 HX3 HI3;have hsl3:=P.c7f bk st;obtain⟨sx,hsx⟩:∃sx,P.scr bk st=sx:=⟨_,rfl⟩;have HSX:=qh hsx;rw [hsx]at hsl3⊢;clear hsx;obtain⟨s1,fi⟩:=sx;simp only at hsl3
  cases ok
  ·have HP:=qh (HNO.o (by rw [HD.o];rfl));exact zq15
  ·have hbk:=HKE.o rfl;subst hbk
   cases fi
   ·have HP:=qh (HNO.o (by rw [HD.o,HSX.o];rfl));exact zq15
   ·have HFI:=qh (show (P.scr (P.putF (o,et) false l) st).2=true by rw [HSX.o]);have HSC:=qh HSX.o;generalize P.putF (o,et) false l=bk at *;obtain⟨en,ee,hle⟩:∃en ee,P.least t s1=(en,ee):=⟨_,_,rfl⟩;have HLE:=qh hle;have HP:=qh (show P.a3y l (st,t) (o,et)=(((bk,(st,s1)),(en,ee)),true) by rw [HYES.o (by first|rfl|trivial) HFI.o];rw [HSC.o,hle]);clear hle;obtain⟨k0,⟨_,k1,k2,_⟩,_⟩:=HX4.o;have HRD:=qh (show RdR w.heap.size w2.heap.size (.slice ua bk.length uc) (.slice sd st.length sc) t w4.drew from RdR.below ⟨HDB.o.1,k1,k2,HDB.o.2,by omega⟩ bZ.drew);have HXD:=qh (HX4.o.below bZ.drew);have HBD:=qh (HB4.o.trans (bZ.drew.mono HB4.o.size));have HID4:=qh (HI4.o.below a0e bZ.drew);have hzd:w4.heap.size≤w4.drew.heap.size:=Nat.le_refl _;clear k0 k1 k2 HX4 HB4 HI4 HDB
    go_upto_region 7 with fail
    refine wp_region_held_drew (S:=RdR w.heap.size w2.heap.size (.slice ua bk.length uc) (.slice sd st.length sc) t) kZ HRD.o (fun hS0=>?_);generalize w4.drew=v0 at *;refine tk1 0 hS0 ?_;refine tk1 1 hS0 ?_;refine tk1 2 hS0 ?_;refine tk1 4 hS0 ?_;refine tk1 6 hS0 ?_;refine tk1 7 hS0 ?_;refine tk1 8 hS0 ?_;refine trd 3 fun K hK=>?_;go_simp;refine (a7n _ st _ (HST.o.below HBD.o) oZ).mono ?_;rintro e v1 ⟨nv,rfl,ho,hb⟩;obtain⟨va,vc,rfl⟩:=a0j ho;have HX5:=qh (HXD.o.below hb);have HB5:=bt HBD hb;have HI5:=qh (HID4.o.below a0e hb);have HOW:=qh ho;have hz5:v0.heap.size≤v1.heap.size:=hb.size;refine hK.out _ _ (hS0.below hb) (fun hS1=>?_);clear hK K hS0 ho hb HXD HBD HID4
    try simp only [qA,qB,qC,Act.put,qD,qE,qF]
    refine tk1 5 hS1 ?_;refine trd 9 fun K hK=>?_;go_simp;refine (a6x t s1 _ oZ oZ).mono ?_;rintro e v2 ⟨rfl,hb⟩;have HX6:=qh (HX5.o.below hb);have HB6:=bt HB5 hb;have HI6:=qh (HI5.o.below a0e hb);have HOW6:=qh (a0k HOW.o hb lZ);have hz6:v1.heap.size≤v2.heap.size:=hb.size;rw [HLE.o];refine hK.out _ _ (hS1.below hb) (fun hS2=>?_);clear hK K hS1 hb HX5 HB5 HI5 HOW
    try simp only []
    obtain⟨_,_,_,⟨k3,k4,_⟩,⟨_,k5,k6,k7,k8⟩,⟨_,k9,k10,k11,k12⟩⟩:=HX6.o;refine trd 10 fun K hK=>?_;go_simp;have hcy0:Chg (fun k=>w.heap.size+3≤k∧k<w.heap.size+6) v2 (v2.setCell ⟨w.heap.size+1+1+1,0,none⟩ (.slice ua bk.length uc)):=((Chg.refl (fun k=>w.heap.size+3≤k∧k<w.heap.size+6) v2).setCell (p:=⟨w.heap.size+1+1+1,0,none⟩) (by show w.heap.size+3≤w.heap.size+1+1+1∧w.heap.size+1+1+1<w.heap.size+6;omega) (.slice ua bk.length uc));have d00:(v2.setCell ⟨w.heap.size+1+1+1,0,none⟩ (.slice ua bk.length uc)).cell? ⟨w.heap.size+1+1+1,0,none⟩=some (.slice ua bk.length uc):=by go_simp
    have k5':(v2.setCell ⟨w.heap.size+1+1+1,0,none⟩ (.slice ua bk.length uc)).cell? ⟨w.heap.size+1+1+1+1,0,none⟩=some (.slice none 0 0):=by go_simp
    have k6':(v2.setCell ⟨w.heap.size+1+1+1,0,none⟩ (.slice ua bk.length uc)).cell? ⟨w.heap.size+1+1+1+1,1,none⟩=some (.string (S [])):=by go_simp
    have k9':(v2.setCell ⟨w.heap.size+1+1+1,0,none⟩ (.slice ua bk.length uc)).cell? ⟨w.heap.size+1+1+1+1+1,0,none⟩=some (.int .i64 0):=by go_simp
    have k10':(v2.setCell ⟨w.heap.size+1+1+1,0,none⟩ (.slice ua bk.length uc)).cell? ⟨w.heap.size+1+1+1+1+1,1,none⟩=some (.string (S [])):=by go_simp
    have k7':(v2.setCell ⟨w.heap.size+1+1+1,0,none⟩ (.slice ua bk.length uc)).frozen? ⟨w.heap.size+1+1+1+1,0,none⟩=false:=by go_simp
    have k8':(v2.setCell ⟨w.heap.size+1+1+1,0,none⟩ (.slice ua bk.length uc)).frozen? ⟨w.heap.size+1+1+1+1,1,none⟩=false:=by go_simp
    have k11':(v2.setCell ⟨w.heap.size+1+1+1,0,none⟩ (.slice ua bk.length uc)).frozen? ⟨w.heap.size+1+1+1+1+1,0,none⟩=false:=by go_simp
    have k12':(v2.setCell ⟨w.heap.size+1+1+1,0,none⟩ (.slice ua bk.length uc)).frozen? ⟨w.heap.size+1+1+1+1+1,1,none⟩=false:=by go_simp
    obtain⟨y0,hy0⟩:∃y,(v2.setCell ⟨w.heap.size+1+1+1,0,none⟩ (.slice ua bk.length uc))=y:=⟨_,rfl⟩;rw [hy0]at hcy0 d00 k5' k6' k9' k10' k7' k8' k11' k12';have hRy0:=hS2.a0c hcy0 oZ oZ;have hall0:Chg (fun k=>w.heap.size+3≤k∧k<w.heap.size+6) v2 y0:=hcy0;refine hK.out _ _ (by rw [hy0];exact hRy0) (fun hS3=>?_);clear hK K;rw [hy0]at hS3⊢
    try simp only [qA,qB,qC,Act.put,qD,qE,qF]
    clear k3 k4 k5 k6 k7 k8 k9 k10 k11 k12 hy0 hS2 hRy0;have k5:=k5';clear k5';have k6:=k6';clear k6';have k9:=k9';clear k9';have k10:=k10';clear k10';have k7:=k7';clear k7';have k8:=k8';clear k8';have k11:=k11';clear k11';have k12:=k12';clear k12';refine trd 11 fun K hK=>?_;go_simp;have hcy1:Chg (fun k=>w.heap.size+3≤k∧k<w.heap.size+6) y0 ((y0.setCell ⟨w.heap.size+1+1+1+1,0,none⟩ (.slice va st.length vc)).setCell ⟨w.heap.size+1+1+1+1,1,none⟩ (.string (S s1))):=(((Chg.refl (fun k=>w.heap.size+3≤k∧k<w.heap.size+6) y0).setCell (p:=⟨w.heap.size+1+1+1+1,0,none⟩) (by show w.heap.size+3≤w.heap.size+1+1+1+1∧w.heap.size+1+1+1+1<w.heap.size+6;omega) (.slice va st.length vc)).setCell (p:=⟨w.heap.size+1+1+1+1,1,none⟩) (by show w.heap.size+3≤w.heap.size+1+1+1+1∧w.heap.size+1+1+1+1<w.heap.size+6;omega) (.string (S s1)));have d10:((y0.setCell ⟨w.heap.size+1+1+1+1,0,none⟩ (.slice va st.length vc)).setCell ⟨w.heap.size+1+1+1+1,1,none⟩ (.string (S s1))).cell? ⟨w.heap.size+1+1+1,0,none⟩=some (.slice ua bk.length uc):=by go_simp
    have d11:((y0.setCell ⟨w.heap.size+1+1+1+1,0,none⟩ (.slice va st.length vc)).setCell ⟨w.heap.size+1+1+1+1,1,none⟩ (.string (S s1))).cell? ⟨w.heap.size+1+1+1+1,0,none⟩=some (.slice va st.length vc):=by go_simp
    have d12:((y0.setCell ⟨w.heap.size+1+1+1+1,0,none⟩ (.slice va st.length vc)).setCell ⟨w.heap.size+1+1+1+1,1,none⟩ (.string (S s1))).cell? ⟨w.heap.size+1+1+1+1,1,none⟩=some (.string (S s1)):=by go_simp
    have k9':((y0.setCell ⟨w.heap.size+1+1+1+1,0,none⟩ (.slice va st.length vc)).setCell ⟨w.heap.size+1+1+1+1,1,none⟩ (.string (S s1))).cell? ⟨w.heap.size+1+1+1+1+1,0,none⟩=some (.int .i64 0):=by go_simp
    have k10':((y0.setCell ⟨w.heap.size+1+1+1+1,0,none⟩ (.slice va st.length vc)).setCell ⟨w.heap.size+1+1+1+1,1,none⟩ (.string (S s1))).cell? ⟨w.heap.size+1+1+1+1+1,1,none⟩=some (.string (S [])):=by go_simp
    have k11':((y0.setCell ⟨w.heap.size+1+1+1+1,0,none⟩ (.slice va st.length vc)).setCell ⟨w.heap.size+1+1+1+1,1,none⟩ (.string (S s1))).frozen? ⟨w.heap.size+1+1+1+1+1,0,none⟩=false:=by go_simp
    have k12':((y0.setCell ⟨w.heap.size+1+1+1+1,0,none⟩ (.slice va st.length vc)).setCell ⟨w.heap.size+1+1+1+1,1,none⟩ (.string (S s1))).frozen? ⟨w.heap.size+1+1+1+1+1,1,none⟩=false:=by go_simp
    obtain⟨y1,hy1⟩:∃y,((y0.setCell ⟨w.heap.size+1+1+1+1,0,none⟩ (.slice va st.length vc)).setCell ⟨w.heap.size+1+1+1+1,1,none⟩ (.string (S s1)))=y:=⟨_,rfl⟩;rw [hy1]at hcy1 d10 d11 d12 k9' k10' k11' k12';have hRy1:=hS3.a0c hcy1 oZ oZ;have hall1:Chg (fun k=>w.heap.size+3≤k∧k<w.heap.size+6) v2 y1:=hall0.trans hcy1;refine hK.out _ _ (by rw [hy1];exact hRy1) (fun hS4=>?_);clear hK K;rw [hy1]at hS4⊢
    try simp only [qA,qB,qC,Act.put,qD,qE,qF]
    clear k5 k6 k7 k8 k9 k10 k11 k12 d00 hy1 hS3 hRy1;have k9:=k9';clear k9';have k10:=k10';clear k10';have k11:=k11';clear k11';have k12:=k12';clear k12';refine trd 12 fun K hK=>?_;go_simp;have hcy2:Chg (fun k=>w.heap.size+3≤k∧k<w.heap.size+6) y1 ((y1.setCell ⟨w.heap.size+1+1+1+1+1,0,none⟩ (.int .i64 en)).setCell ⟨w.heap.size+1+1+1+1+1,1,none⟩ (.string (S ee))):=(((Chg.refl (fun k=>w.heap.size+3≤k∧k<w.heap.size+6) y1).setCell (p:=⟨w.heap.size+1+1+1+1+1,0,none⟩) (by show w.heap.size+3≤w.heap.size+1+1+1+1+1∧w.heap.size+1+1+1+1+1<w.heap.size+6;omega) (.int .i64 en)).setCell (p:=⟨w.heap.size+1+1+1+1+1,1,none⟩) (by show w.heap.size+3≤w.heap.size+1+1+1+1+1∧w.heap.size+1+1+1+1+1<w.heap.size+6;omega) (.string (S ee)));have d20:((y1.setCell ⟨w.heap.size+1+1+1+1+1,0,none⟩ (.int .i64 en)).setCell ⟨w.heap.size+1+1+1+1+1,1,none⟩ (.string (S ee))).cell? ⟨w.heap.size+1+1+1,0,none⟩=some (.slice ua bk.length uc):=by go_simp
    have d21:((y1.setCell ⟨w.heap.size+1+1+1+1+1,0,none⟩ (.int .i64 en)).setCell ⟨w.heap.size+1+1+1+1+1,1,none⟩ (.string (S ee))).cell? ⟨w.heap.size+1+1+1+1,0,none⟩=some (.slice va st.length vc):=by go_simp
    have d22:((y1.setCell ⟨w.heap.size+1+1+1+1+1,0,none⟩ (.int .i64 en)).setCell ⟨w.heap.size+1+1+1+1+1,1,none⟩ (.string (S ee))).cell? ⟨w.heap.size+1+1+1+1,1,none⟩=some (.string (S s1)):=by go_simp
    have d23:((y1.setCell ⟨w.heap.size+1+1+1+1+1,0,none⟩ (.int .i64 en)).setCell ⟨w.heap.size+1+1+1+1+1,1,none⟩ (.string (S ee))).cell? ⟨w.heap.size+1+1+1+1+1,0,none⟩=some (.int .i64 en):=by go_simp
    have d24:((y1.setCell ⟨w.heap.size+1+1+1+1+1,0,none⟩ (.int .i64 en)).setCell ⟨w.heap.size+1+1+1+1+1,1,none⟩ (.string (S ee))).cell? ⟨w.heap.size+1+1+1+1+1,1,none⟩=some (.string (S ee)):=by go_simp
    obtain⟨y2,hy2⟩:∃y,((y1.setCell ⟨w.heap.size+1+1+1+1+1,0,none⟩ (.int .i64 en)).setCell ⟨w.heap.size+1+1+1+1+1,1,none⟩ (.string (S ee)))=y:=⟨_,rfl⟩;rw [hy2]at hcy2 d20 d21 d22 d23 d24;have hRy2:=hS4.a0c hcy2 oZ oZ;have hall2:Chg (fun k=>w.heap.size+3≤k∧k<w.heap.size+6) v2 y2:=hall1.trans hcy2;refine hK.out _ _ (by rw [hy2];exact hRy2) (fun hS5=>?_);clear hK K;rw [hy2]at hS5⊢
    try simp only [qA,qB,qC,Act.put,qD,qE,qF]
    clear k9 k10 k11 k12 d10 d11 d12 hy2 hS4 hRy2;refine tk1 13 hS5 ?_;refine wpAnyH_done kZ ?_ _;have HEN:=qh (show Ents y2 (Bet w.heap.size w4.heap.size) (.slice ua bk.length uc) bk from (HI6.o.a0c a0e hall2 (fun b h1 h2=>by simp only [Bet]at h1;omega)).wide (fun b h1=>by simp only [Bet]at h1⊢;omega) (fun b h1=>by have h3:=hall2.size;simp only [Bet]at h1;omega));have HOR:=qh (show OwnK w4.heap.size y2 (.slice va st.length vc) st from a1n (a0g HOW6.o hall2 (fun k hk h1=>by have h2:=(World.ownsRow.lt HOW6.o k hk).1;omega)) oZ);have HBL:=qh (Chg.a0x HB6.o hall2 HB6.o.size (fun b h1=>by omega));have hz7:v2.heap.size≤y2.heap.size:=hall2.size;clear hS5 hall0 hall1 hall2 hcy0 hcy1 hcy2;go_wp2;refine bodyPost_ret (v:=.tuple #[.agg #[.slice ua bk.length uc],a1v (.slice va st.length vc) s1,a2j (en,ee),.bool true]) (by simp [a1v,a2j,d20,d21,d22,d23,d24,results,Tryz.results212,go_sem]) rfl ⟨.slice ua bk.length uc,.slice va st.length vc,w4.heap.size,by rw [HP.o],by rw [HP.o];exact HEN.o,by rw [HP.o];exact HOR.o,by omega,by omega,HBL.o⟩
end Go.Proofs.YtggfdnopminemaaGreatDoor
