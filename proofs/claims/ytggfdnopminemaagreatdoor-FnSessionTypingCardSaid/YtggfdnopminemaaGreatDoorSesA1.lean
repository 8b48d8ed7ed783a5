/- Walks: the outlines of a text as a reply (program). -/
import Derived.Test.YtggfdnopminemaaGreatDoorZt
import Derived.Test.YtggfdnopminemaaGreatDoorSesR1
import Derived.Test.YtggfdnopminemaaGreatDoorSesF2
set_option linter.all false
namespace Go.Proofs.YtggfdnopminemaaGreatDoor
namespace P
theorem b8g (s:Bs):Go.Lib.replaceAll s [35] [61]=s.map hash:=by
 rw [b3s dZ];rfl
def a9e (t:Bs) (d:Dic):List Bs:=(a2x t d).map fun o=>(fmtS 47 o).map hash
theorem d5g (d:Dic) (t:Bs):revT d t=if a2x t d=[] then wNone else Go.Lib.join (a9e t d) [32]:=rfl
theorem b7j {o:List Int} (h:a0l o=true):((fmtS 47 o).map hash).length≤282:=by
 have h1:=b5i 47 o;have h2:=(a4e h).2;rw [List.length_map];omega
theorem c4l {l:List (List Int)} (h:∀o∈l,a0l o=true) (hl:l.length≤40):(Go.Lib.join (l.map fun o=>(fmtS 47 o).map hash) [32]).length≤12000:=by
 have h1:=c1e (l.map fun o=>(fmtS 47 o).map hash) 32 282 (fun x hx=>by obtain⟨o,ho,rfl⟩:=List.mem_map.1 hx;exact b7j (h o ho));rw [List.length_map]at h1;have:l.length*(282+1)≤40*283:=Nat.mul_le_mul_right _ hl;omega
end P
open Go Go.RowKit
set_option maxHeartbeats 8000000
set_option maxRecDepth 100000
theorem b6p (x:Str) (w:World) (hE:Env w) (hl:x.length≤2^20) :
 Calls Tryz.prog 107 #[.string (S x),.string (S [35]),.string (S [61])] w fun e w'=>e=.returned (.string (S (x.map P.hash)))∧Below w.heap.size w w':=by
 obtain⟨n,hm⟩:=hE.2
 have hc:=Lib.countB_mul_le (S [35]) dZ (S x).size (S x) lZ
 have hc2:Lib.countB (S x) (S [35])≤x.length:=by rw [S_size,S_size]at hc;simpa using hc
 refine (Tryz.strings_ReplaceAll (S x) (S [35]) (S [61]) n w (by rw [S_size];omega) hm dZ (by rw [S_size,S_size];simp;omega)).mono ?_
 rintro e w' ⟨rfl,hb⟩
 rw [S_dataList,S_dataList,S_dataList,P.b8g]
 exact⟨rfl,hb⟩
theorem d4l {B B':Nat} {v:World} {u y:Value} {n:Nat} {xs:List Value} {l:List Str} (h1:v.ownsRow B 33 1 u n xs) (h2:a0q B' v y l) (k:Nat) (hk:u.ownBlock=some k):y.ownBlock≠some k:=by
 exact zq29
theorem d1j {B B':Nat} {v:World} {u y:Value} {l:List Int} {m:List Str} (h1:OwnK B v u l) (h2:a0q B' v y m) (k:Nat) (hk:u.ownBlock=some k):y.ownBlock≠some k:=by
 exact zq29
theorem RevI.grown {w:World} {B B':Nat} {u y:Value} {its:List (Value×List Int)} {l:List Str} {v z:World} {ob:Obj} (h:RevI w B u its v) (hy:a0q B' v y l) (hw:w.heap.size≤B') (hgr:(v.alloc ob).grownBy z y.ownBlock):RevI w B u its z:=by
 have hba:=(Below.refl v.heap.size v).alloc lZ ob;have h1:=h.below hba;have hy1:=a0k hy hba lZ;have hc:=a6o hgr;exact⟨a0g h1.row hc (d4l h1.row hy1),fun it hi=>a0g (h1.els it hi) hc (d1j (h1.els it hi) hy1),h1.bel.grown hgr h1.bel.size (fun k hk=>Nat.le_trans hw (World.ownsRow.lt hy1 k hk).1),h.lo.1,Nat.le_trans h1.lo.2 hc.size⟩
theorem d0p {B:Nat} {w:World} {v:Value} {l:List Str} (h:a0q B w v l):∃a cap,v=.slice a l.length cap:=by
 exact zq18
theorem b5g (lo B:Nat) (l:P.Dic) (st:List Int) (sc d p:Str) (n:Int) (t:Str) (w:World) (h:SesM lo B (l,(st,sc)) (d,p,n) w) (hm:Small l) (hdc:P.dic l=true) (htl:t.length≤2^20) (hE:L.Env w) :
 Calls Tryz.prog 142 #[.pointer (some ⟨B,0,none⟩),.string (S t)] w (a4l lo B ((l,(st,sc)),P.a7o l t) (d,p,n) w):=by
 obtain⟨i0,hi,hz0,hz1,hz2⟩:=info_parts L.a8p
 have HSM:=qh h
 obtain⟨hEB,hlo,u,us,hS,hR⟩:=h
 have hBz:B<w.heap.size:=hS.1.2.2.2.2.2.2
 have hu:=hR.dic
 simp only at hS hR hu
 obtain⟨ad,cap,rfl,_,_⟩:=id hu
 have HU:=qh hu;have HE:=qh hE;have HDC:=qh hdc
 have HREV:=qh (show P.a7o l t=if (P.a0p t).2 then some (P.revT l t) else none from rfl)
 have HOO:=qh (P.b3z (t:=t) hdc)
 have hl40:=Nat.le_trans (P.b4g t l) (P.b9y hdc)
 have HRT:=qh (P.d5g l t)
 obtain⟨⟨o0,o1,o2,o3,o4,o5,o6⟩,_⟩:=hS
 clear hu hE hdc hR
 go_enter Tryz.func142,Tryz.ntmps142
 go_wp2_with fail
 refine (a9i _ l t _ HU.o hm HE.o.dic).mono ?_
 rintro e w1 ⟨x,its,B1,rfl,hmap,hI⟩
 rw [HDC.o,if_pos rfl]at hmap
 rw [HDC.o]
 have HI:=qh hI
 obtain⟨xa,xc,rfl⟩:=hI.form
 have HM:=qh (show its.map (·.2)=P.a2x t l from hmap)
 have hil:its.length≤40:=by have h1:=congrArg List.length hmap;rw [List.length_map]at h1;omega
 have HOI:=qh (show ∀it∈its,P.a0l it.2=true from fun it hi=>HOO.o it.2 (by rw [←hmap];exact List.mem_map_of_mem hi))
 have HOW:=qh (show a0q w1.heap.size (w1.alloc (.cells #[] 9)) (.slice (some ⟨w1.heap.size,0,none⟩) 0 0) [] from by have h:=World.ownsRow_lit (base:=w1.heap.size) (e:=9) (size:=1) w1 #[] 0 lZ (Nat.zero_le _) sZ;simpa [a0q,a3g] using h)
 have HI1:=qh (hI.below ((Below.refl w1.heap.size w1).alloc lZ (.cells #[] 9)))
 have hzw:=hI.bel.size
 clear hmap hI o0 o1 o2 o3 o4 o5 o6 HI
 go_wp2
 go_loopw [8,23] (fun v i wr=>∃k:Nat,k≤its.length∧i=.int .i64 k∧(∃ws:List Str,ws=(its.take k).map (fun it=>(P.fmtS 47 it.2).map P.hash)∧a0q w1.heap.size wr v ws)∧RevI w B1 (.slice xa its.length xc) its wr∧w1.heap.size≤wr.heap.size) (fun _ i _=>its.length-(intOf i).toNat)
 case atStart=>exact⟨0,Nat.zero_le _,rfl,⟨_,rfl,HOW.o⟩,HI1.o,by simp⟩
 case round=>
  obtain⟨k,hk,rfl,⟨ws,hws,hown⟩,hI,hzr⟩:=hrel;have HOWN:=qh hown;have HI:=qh hI;have HWS:=qh hws;have hwl:ws.length≤40:=by rw [hws,List.length_map,List.length_take];omega
  clear hown hws HOW HI1
  by_cases hlt:k<its.length
  ·obtain⟨g,hga,hgB,hgl,c0⟩:=hI.at k hlt;subst hga;have i1:(k:Int)<(its.length:Int):=by omega
   have hok:=hI.els its[k] (List.getElem_mem hlt);have hol:=HOI.o its[k] (List.getElem_mem hlt);have HSN:=qh (show ws++[(P.fmtS 47 its[k].2).map P.hash]=(its.take (k+1)).map (fun it=>(P.fmtS 47 it.2).map P.hash) from by rw [HWS.o,a0h its k hlt,List.map_append];rfl);generalize its[k]=it at *;obtain⟨y,o⟩:=it;simp only at hok hol c0 HSN;have h6:=(P.a4e hol).2;have hwd:=P.b7j hol;have hfs:=P.b5i 47 o;obtain⟨ya,yc,rfl⟩:=a0j hok;have HK:=qh (a1i hok oZ);have HSL:=qh (P.b6k hol);have HEW:=qh (HE.o.below hI.bel HE.o.size);clear hok hol hI
   go_wp2_with fail
   refine (c3v _ o _ HK.o HSL.o).mono ?_;rintro e w2 ⟨rfl,hb⟩;have HO2:=qh (a0k HOWN.o hb lZ);have HI2:=qh (HI.o.below hb);have HE2:=qh (HEW.o.below hb HEW.o.size);have hy2:w1.heap.size≤w2.heap.size:=Nat.le_trans hzr hb.size;clear hb c0 HEW HI HOWN
   go_wp2_with fail
   refine (b6p (P.fmtS 47 o) _ HE2.o.dic oZ).mono ?_;rintro e w3 ⟨rfl,hb⟩;have HO3:=qh (a0k HO2.o hb lZ);have HI3:=qh (HI2.o.below hb);have hy3:w1.heap.size≤w3.heap.size:=Nat.le_trans hy2 hb.size;clear hb HO2 HI2;generalize (P.fmtS 47 o).map P.hash=nw at *;have HOA:=qh (show (w3.alloc (.cells #[.string (S nw)] 9)).ownsRow w1.heap.size 9 1 _ ws.length (a3g ws) from World.ownsRow.alloc HO3.o _)
   go_wp2_with (at_builtin;refine wpList_append_own _ rfl _ _ 43 rfl w1.heap.size 9 i0 (.string ⟨#[]⟩) 1 16 Tryz.underlying43 hi hz0 hz1 hz2 rfl dZ _ _ _ rfl HOA.o ⟨w3.heap.size,0,none⟩ 1 1 [.string (S nw)] rfl rfl ?c1 ?c2 ?c3 ?c4 ?c5 ?_)
   case c1=>intro j u hj;match j,hj with|0,hj=>(simp at hj;subst hj;simp [Addr.add])
   case c2=>intro u hu;simp at hu;subst hu;rfl
   case c3=>unfold maxLen;omega
   case c4=>omega
   case c5=>simp;omega
   intro v' w4 hown' hgrow _;have HO4:=qh (L.a0q.snoc hown');have HI4:=qh (HI3.o.grown HO3.o oZ hgrow);have hy4:w1.heap.size≤w4.heap.size:=Nat.le_trans (by simp;omega) (a6o hgrow).size;clear hown' hgrow HOA;go_wp2
   go_roundw
   case rel=>exact⟨k+1,by omega,by go_num,⟨_,HSN.o,HO4.o⟩,HI4.o,hy4⟩
   case measure=>simp [intOf];omega
  ·have hkl:k=its.length:=by omega
   subst hkl;have HWW:=qh (show ws=P.a9e t l from by rw [HWS.o,List.take_length];unfold P.a9e;rw [←HM.o,List.map_map];rfl);have HJL:=qh (show (Lib.join (P.a9e t l) [32]).length≤12000 from P.c4l HOO.o hl40);have HEW:=qh (HE.o.below HI.o.bel HE.o.size);have HB0:=qh HI.o.bel;have HLN:=qh (show its.length=(P.a2x t l).length from by rw [←HM.o,List.length_map]);have HWL:=qh (show ws.length=its.length from by rw [HWS.o,List.length_map,List.take_length]);clear hI HWS;obtain⟨va,vc,rfl⟩:=d0p HOWN.o;have hwe:ws.length=its.length:=HWL.o
   by_cases h0:its.length=0
   ·have hnil:ws=[]:=List.eq_nil_of_length_eq_zero oZ;have HRN:=qh (show P.revT l t=[110,111,110,101] from by rw [HRT.o,if_pos (List.eq_nil_of_length_eq_zero (by rw [←HLN.o];exact h0))];rfl);have HLIT:=qh (show a0q wr.heap.size (wr.alloc (.cells #[.string (S [110,111,110,101])] 9)) (.slice (some ⟨wr.heap.size,0,none⟩) 1 1) [[110,111,110,101]] from by have h:=World.ownsRow_lit (base:=wr.heap.size) (e:=9) (size:=1) wr #[.string (S [110,111,110,101])] 1 lZ (by unfold maxLen;omega) sZ;simpa [a0q,a3g] using h);have hba:=(Below.refl wr.heap.size wr).alloc lZ (.cells #[.string (S [110,111,110,101])] 9);have HB1:=bt HB0 hba;have HE1:=qh (HEW.o.below hba HEW.o.size);subst hnil;have f0:((([]:List Str).length:Int)==0)=true:=rfl;clear hba hwe;rw [h0]at *
    go_wp2_with fail
    refine (b5x wr.heap.size _ [[110,111,110,101]] 32 _ HLIT.o sZ dZ).mono ?_;rintro e w2 ⟨rfl,hb⟩;have HB2:=bt HB1 hb;have HE2:=qh (HE1.o.below hb HE1.o.size);clear hb
    go_wp2_with fail
    refine (a5x t _ oZ HE2.o.dic).mono ?_;rintro e w3 ⟨rfl,hb⟩;have HB3:=bt HB2 hb;clear hb;obtain⟨q,hq⟩:∃q,(P.a0p t).2=q:=⟨_,rfl⟩;rw [hq]at HREV⊢;clear hq;go_wp2;go_ret2;exact⟨[110,111,110,101],q,rfl,by show _=P.a7o l t;rw [HREV.o,HRN.o];cases q<;>rfl,HSM.o.below HB3.o,Below.chg HB3.o _⟩
   ·have f0:((its.length:Int)==0)=false:=by rw [beq_eq_false_iff_ne];omega
    have HRN:=qh (show P.revT l t=Lib.join (P.a9e t l) [32] from by rw [HRT.o,if_neg (fun h=>h0 (by rw [HLN.o,h];rfl))]);have hwle:ws.length≤2^20:=by omega
    have HJW:=qh (show (Lib.join ws [32]).length≤2^30 from Nat.le_trans (by rw [HWW.o];exact HJL.o) dZ);have f1:((ws.length:Int)==0)=false:=by rw [beq_eq_false_iff_ne];omega
    clear hwe f0
    go_wp2_with fail
    refine (b5x w1.heap.size _ ws 32 _ HOWN.o hwle HJW.o).mono ?_;rintro e w2 ⟨rfl,hb⟩;have HB2:=bt HB0 hb;have HE2:=qh (HEW.o.below hb HEW.o.size);clear hb
    go_wp2_with fail
    refine (a5x t _ oZ HE2.o.dic).mono ?_;rintro e w3 ⟨rfl,hb⟩;have HB3:=bt HB2 hb;clear hb;obtain⟨q,hq⟩:∃q,(P.a0p t).2=q:=⟨_,rfl⟩;rw [hq]at HREV⊢;clear hq;go_wp2;go_ret2;exact⟨Lib.join ws [32],q,rfl,by show _=P.a7o l t;rw [HREV.o,HRN.o,HWW.o];cases q<;>rfl,HSM.o.below HB3.o,Below.chg HB3.o _⟩
namespace P
theorem c4k {s:Ses} {word more:Bs} (h:a2q more=none):b3k s word more=(s,none):=by unfold b3k;rw [h]
theorem c4p {s:Ses} {word more:Bs} {o:List Int} (h:a2q more=some o):b3k s word more=outl s word o:=by unfold b3k;rw [h]
theorem beqB {a b:Bs} (h:a=b):(a==b)=true:=by rw [h];simp
theorem beqN {a b:Bs} (h:a≠b):(a==b)=false:=by simpa using h
end P
theorem a4l.after {lo B:Nat} {a:P.Ans} {g:P.LogT} {w w1 v:World} {e:Ending} (h:a4l lo B a g w1 e v) (hb:Below w.heap.size w w1):a4l lo B a g w e v:=by
 obtain⟨x,ok,h1,h2,h3,h4⟩:=h;exact⟨x,ok,h1,h2,h3,(Below.chg hb _).trans h4⟩
theorem c6w (k:Int) (w:World):IntR (w.alloc (.cells #[.int .i64 k] 3)) (.slice (some ⟨w.heap.size,0,none⟩) 1 1) [k]:=by
 refine⟨_,1,rfl,⟨by simp,by simp⟩,(fun h=>by cases h),.inr ⟨w.heap.size,0,rfl,by simp,fun j hj=>?_⟩⟩;have hj0:j=0:=by simp at hj;omega
 subst hj0;rw [World.cell?_alloc_new];rfl
theorem b0i (lo B:Nat) (l:P.Dic) (st:List Int) (sc d p:Str) (n:Int) (word more:Str) (w:World) (h:SesM lo B (l,(st,sc)) (d,p,n) w) (hm:Small l) (ht:P.trans l (st,sc)=true) (hl:more.length≤2^20) (hE:L.Env w) :
 Calls Tryz.prog 140 #[.pointer (some ⟨B,0,none⟩),.string (S word),.string (S more)] w (a4l lo B (P.b3k (l,(st,sc)) word more) (d,p,n) w):=by
 have HSM:=qh h;have HE:=qh hE;have HT:=qh ht
 have HNO:=qh (P.c4k (s:=(l,(st,sc))) (word:=word) (more:=more));have HSO:=qh (fun o=>P.c4p (s:=(l,(st,sc))) (word:=word) (more:=more) (o:=o))
 clear h hE ht
 go_enter Tryz.func140,Tryz.ntmps140
 go_wp2_with fail
 refine (a5j more _ oZ HE.o.dic).mono ?_
 rintro e w1 ⟨ou,rfl,ho,hb⟩
 have HB1:=qh hb;have HO:=qh ho;have HE1:=qh (HE.o.below hb HE.o.size);have HS1:=qh (HSM.o.below hb)
 obtain⟨oa,oc,rfl⟩:=a0j ho
 clear hb ho
 cases hp:P.a2q more with
 |none=>
  have HP:=qh (HNO.o hp);clear hp;go_wp2;go_ret2;exact HSM.o.keep (x:=[]) HB1.o HP.o
 |some o=>
  have HP0:=qh (show P.b3k (l,(st,sc)) word more=(if word=P.d2f then P.typed (l,(st,sc)) o else if word=P.b5f then P.a6g (l,(st,sc)) o else ((l,(st,sc)),P.optB (P.b5u o l))) from HSO.o o hp);have hov:=(P.a4e (P.b2c hp).1).2;rw [hp]at HO;simp only [Option.getD_some,Option.isSome_some]at HO⊢;have HOR:=qh (a1i HO.o (show o.length≤2^45 by omega));clear hp
  by_cases h1:word=[116,121,112,101]
  ·have HP:=qh (show P.b3k (l,(st,sc)) word more=P.typed (l,(st,sc)) o from HP0.o.trans (if_pos h1));have f1:=P.beqB h1;clear h1
   go_wp2_with fail
   refine (a8d lo B _ l st o sc d p n _ HS1.o hm HT.o HOR.o HE1.o).mono ?_;exact zq89
  ·have f1:=P.beqN h1
   by_cases h2:word=[100,101,108,101,116,101]
   ·have HP:=qh (show P.b3k (l,(st,sc)) word more=P.a6g (l,(st,sc)) o from HP0.o.trans ((if_neg h1).trans (if_pos h2)));have f2:=P.beqB h2;clear h1 h2
    go_wp2_with fail
    refine (b6m lo B _ l st o sc d p n _ HS1.o hm HT.o HOR.o HE1.o).mono ?_;exact zq89
   ·have f2:=P.beqN h2;have HP:=qh (show P.b3k (l,(st,sc)) word more=((l,(st,sc)),P.optB (P.b5u o l)) from HP0.o.trans ((if_neg h1).trans (if_neg h2)));clear h1 h2;obtain⟨_,_,u,us,hS,hR⟩:=HS1.o;have HU:=qh hR.dic;obtain⟨ad,cap,rfl,_,_⟩:=id hR.dic;obtain⟨⟨o0,o1,o2,o3,o4,o5,o6⟩,_⟩:=hS;simp only at o0 HU hR;clear hR
    go_wp2_with fail
    refine (c0y _ _ l o _ HU.o HOR.o hm HE1.o.dic).mono ?_;rintro e w2 ⟨rfl,hb⟩;have HB2:=bt HB1 hb;clear hb o0 o1 o2 o3 o4 o5 o6;go_wp2;go_ret2;exact⟨_,_,rfl,by rw [HP.o];rfl,by rw [HP.o];exact HSM.o.below HB2.o,Below.chg HB2.o _⟩
theorem b9m (lo B:Nat) (l:P.Dic) (st:List Int) (sc d p:Str) (n:Int) (word:Str) (w:World) (h:SesM lo B (l,(st,sc)) (d,p,n) w) (hm:Small l) (ht:P.trans l (st,sc)=true) (hE:L.Env w) :
 Calls Tryz.prog 71 #[.pointer (some ⟨B,0,none⟩),.string (S word)] w (a4l lo B (P.alone (l,(st,sc)) word) (d,p,n) w):=by
 have HSM:=qh h;have HE:=qh hE;have HT:=qh ht
 have HP0:=qh (show P.alone (l,(st,sc)) word=if word=P.wUndo then P.typed (l,(st,sc)) [1024] else if word=P.c9u then ((l,(st,sc)),some sc) else if word=P.d3f then ((l,(st,sc)),some (P.num st.length)) else if word=P.c8z then ((l,(st,sc)),some ((P.num (P.segA l st).length++[32])++P.num (P.blank (P.segA l st)))) else ((l,(st,sc)),none) from rfl)
 have hs60:=(P.a4h ht).1
 try simp only at hs60
 obtain⟨hEB,hlo,u,us,hS,hR⟩:=h
 have hBz:B<w.heap.size:=hS.1.2.2.2.2.2.2
 have hu:=hR.dic;have hus:=hR.str
 simp only at hS hR hu hus
 have HU:=qh hu;have HUS:=qh hus
 obtain⟨ad,cap,rfl,_,_⟩:=hu
 obtain⟨sd,sap,rfl,_,_⟩:=hus
 obtain⟨⟨o0,o1,o2,o3,o4,o5,o6⟩,_⟩:=hS
 clear hE ht hR
 by_cases h1:word=[117,110,100,111]
 ·have HP:=qh (HP0.o.trans (if_pos h1));have f1:=P.beqB h1;have hba:=(Below.refl w.heap.size w).alloc lZ (.cells #[.int .i64 1024] 3);have HB1:=qh hba;have HS1:=qh (HSM.o.below hba);have HE1:=qh (HE.o.below hba HE.o.size);have HO:=qh (c6w 1024 w);clear h1 hba HP0
  go_enter Tryz.func71,Tryz.ntmps71
  go_wp2_with fail
  refine (a8d lo B _ l st [1024] sc d p n _ HS1.o hm HT.o HO.o HE1.o).mono ?_;exact zq89
 have HP1:=qh (HP0.o.trans (if_neg h1))
 have f1:=P.beqN h1
 clear HP0 h1
 by_cases h2:word=[115,99,114,101,101,110]
 ·have HP:=qh (HP1.o.trans (if_pos h2));have f2:=P.beqB h2;clear h2 HP1
  go_enter Tryz.func71,Tryz.ntmps71
  go_wp2;go_ret2;exact⟨sc,true,rfl,by rw [HP.o];rfl,by rw [HP.o];exact HSM.o,Chg.refl _ _⟩
 have HP2:=qh (HP1.o.trans (if_neg h2))
 have f2:=P.beqN h2
 clear HP1 h2
 by_cases h3:word=[99,111,117,110,116]
 ·have HP:=qh (HP2.o.trans (if_pos h3));have f3:=P.beqB h3;clear h3 HP2
  go_enter Tryz.func71,Tryz.ntmps71
  go_wp2_with fail
  refine (L.a4s (st.length:Int) _ oZ oZ HE.o).mono ?_;rintro e w1 ⟨rfl,hb⟩;have HB:=qh hb;clear hb;go_wp2;go_ret2;exact⟨P.num st.length,true,rfl,by rw [HP.o];rfl,by rw [HP.o];exact HSM.o.below HB.o,Below.chg HB.o _⟩
 have HP3:=qh (HP2.o.trans (if_neg h3))
 have f3:=P.beqN h3
 clear HP2 h3
 by_cases h4:word=[112,105,101,99,101,115]
 ·have HP:=qh (HP3.o.trans (if_pos h4));have f4:=P.beqB h4;clear h4 HP3;have HRD:=qh (show w.drew.cell? ⟨B,0,none⟩=some (.slice ad l.length cap)∧w.drew.cell? ⟨B,1,none⟩=some (.slice sd st.length sap)∧B<w.drew.heap.size from⟨o0,o1,o6⟩);have HBD:=qh (show Below w.heap.size w w.drew from bZ.drew)
  go_enter Tryz.func71,Tryz.ntmps71
  go_upto_region 9 with fail
  clear o0 o1 o2 o3 o4 o5 o6
  go_cut [6] (fun pv wx=>PcR wx pv (P.segA l st)∧Below w.heap.size w wx)
  case first=>
   refine wp_region_held_drew (S:=fun v=>v.cell? ⟨B,0,none⟩=some (.slice ad l.length cap)∧v.cell? ⟨B,1,none⟩=some (.slice sd st.length sap)∧B<v.heap.size) kZ HRD.o (fun hS0=>?_);generalize w.drew=v0 at *;refine tk3 0 hS0 ?_;refine tk3 1 hS0 ?_;refine tk3 2 hS0 ?_;refine tk3 3 hS0 ?_;refine tk3 4 hS0 ?_;refine tk3 5 hS0 ?_;refine tk3 6 hS0 ?_;refine tk3 7 hS0 ?_;refine tk3 8 hS0 ?_;refine trd 9 fun K hK=>?_;go_simp;refine (c6p _ _ l st _ (HU.o.below HBD.o) (HUS.o.below HBD.o) hs60).mono ?_;rintro e v1 ⟨pv,rfl,hpv,hb⟩;refine hK.out _ _ ⟨(hb.cell (p:=⟨B,0,none⟩) hS0.2.2).trans hS0.1,(hb.cell (p:=⟨B,1,none⟩) hS0.2.2).trans hS0.2.1,Nat.lt_of_lt_of_le hS0.2.2 hb.size⟩ (fun hS1=>?_);clear hK K;have HPV:=qh hpv;have HB4:=bt HBD hb;obtain⟨pa,pc,rfl,_⟩:=hpv;clear hb
   try simp only [qA,qB,qC,Act.put,qD,qE,qF]
   refine tk3 10 hS1 ?_;refine wpAnyH_done kZ ?_ _
   go_wp2_with fail
   go_meet;exact⟨HPV.o,HB4.o⟩
  case rest=>
   obtain⟨hpv,hb⟩:=hcut;have HPV:=qh hpv;have HB:=qh hb;have HE1:=qh (HE.o.below hb HE.o.size);have hsl:=P.c2w l st;obtain⟨pa,pc,rfl,_⟩:=hpv;have hbl:=P.c2e (P.segA l st);generalize P.segA l st=ps at *;generalize hww:wc=w3 at *;clear hww hb HRD HBD
   go_wp2_with fail
   refine (L.a4s (ps.length:Int) _ oZ oZ HE1.o).mono ?_;rintro e w4 ⟨rfl,hb⟩;have HB4:=bt HB hb;have HE4:=qh (HE1.o.below hb HE1.o.size);have HPV4:=qh (HPV.o.below hb);have hn1:=P.a5v ps.length oZ;clear hb
   go_wp2_with fail
   refine (c3y _ ps _ HPV4.o oZ).mono ?_;rintro e w5 ⟨rfl,hb⟩;have HB5:=bt HB4 hb;have HE5:=qh (HE4.o.below hb HE4.o.size);clear hb
   go_wp2_with fail
   refine (L.a4s (P.blank ps:Int) _ oZ oZ HE5.o).mono ?_;rintro e w6 ⟨rfl,hb⟩;have HB6:=bt HB5 hb;have hn2:=P.a5v (P.blank ps) oZ;clear hb;simp only [Int.toNat_natCast]at *;generalize P.num ps.length=na at *;generalize P.num (P.blank ps)=nb at *;go_wp2;go_ret2;exact⟨_,true,rfl,by rw [HP.o];simp [okB],by rw [HP.o];exact HSM.o.below HB6.o,Below.chg HB6.o _⟩
 ·have HP:=qh (HP3.o.trans (if_neg h4));have f4:=P.beqN h4;clear h4 HP3
  go_enter Tryz.func71,Tryz.ntmps71
  go_wp2;go_ret2;exact HSM.o.keep (x:=[]) bZ HP.o
end Go.Proofs.YtggfdnopminemaaGreatDoor
