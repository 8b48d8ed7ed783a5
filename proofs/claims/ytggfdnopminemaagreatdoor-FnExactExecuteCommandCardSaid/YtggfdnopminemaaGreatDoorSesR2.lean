/- Walks: a session as text (program and reference). -/
import Derived.Test.YtggfdnopminemaaGreatDoorZt
import Derived.Test.YtggfdnopminemaaGreatDoorSesD2
namespace Go.Proofs.YtggfdnopminemaaGreatDoor
open Go Go.RowKit
set_option maxHeartbeats 8000000
set_option maxRecDepth 100000
theorem b8w (B:Nat) (u:Value) (l:List Str) (c:UInt8) (w:World) (h:a0v B w u l) (hl:l.length≤2^20) (hx:(Lib.join l [c]).length≤2^30) :
 Calls Tryz.prog 185 #[u,.string (S [c])] w fun e w'=>e=.returned (.string (S (Lib.join l [c])))∧Below w.heap.size w w':=by
 cases l with
 |nil=>
  have hu:∃a cap,u=.slice a 0 cap:=by
   rcases h.2 with⟨rfl,_⟩|⟨g,cap,cur,rfl,_⟩
   ·exact⟨_,_,rfl⟩
   ·exact⟨_,_,rfl⟩
  obtain⟨a,cap,rfl⟩:=hu;refine (Tryz.strings_Join_none a cap (S [c]) w).mono ?_;rintro e w' ⟨rfl,rfl⟩;exact⟨rfl,Below.refl _ _⟩
 |cons x r=>
  rcases id h.2 with⟨_,h0⟩|⟨g,cap,cur,hv,hg,hh,hnc,_⟩
  ·simp at h0
  ·have hob:u.ownBlock=some g:=by rw [hv];rfl
   have hgl:=(World.ownsRow.lt h g hob).2
   have hj:=Tryz.strings_Join g 0 cap ((x::r).map S) (S [c]) w (by
    intro j y hy
    rw [List.getElem?_map]at hy
    cases hq:(x::r)[j]? with
    |none=>rw [hq]at hy;simp at hy
    |some z=>
     rw [hq]at hy;simp only [Option.map_some,Option.some.injEq]at hy;subst hy;have hc:=World.ownsRow.cells h hob j (.string (S z)) (by unfold a3j;rw [List.getElem?_map,hq];rfl);rw [add0]at hc;rw [Nat.zero_add];exact hc) hgl (by simp at hl⊢;omega) (by simpa using hnc) (by
    rw [List.map_map,S_dataList,show ((fun x:ByteArray=>x.data.toList) ∘ S)=id from funext fun z=>S_dataList z,List.map_id];omega)
   rw [List.length_map]at hj;rw [hv];refine hj.mono ?_;rintro e w' ⟨rfl,hb⟩;refine⟨?_,hb⟩;rw [List.map_map,S_dataList,show ((fun x:ByteArray=>x.data.toList) ∘ S)=id from funext fun z=>S_dataList z,List.map_id];rfl
theorem c8h (us:Value) (st:List Int) (w:World) (hus:IntR w us st) (hs:P.a2z st=true) :
 Calls Tryz.prog 108 #[us] w fun e w'=>e=.returned (.string (S (P.fmtS 47 st)))∧Below w.heap.size w w':=by
 obtain⟨i0,hi,hz0,hz1,hz2⟩:=info_parts L.b1b
 have HUS:=qh hus;have HSL:=qh hs
 have hl60:=P.a4q hs
 obtain⟨sd,sap,rfl,_,_⟩:=hus
 clear hs
 go_enter Tryz.func108,Tryz.ntmps108
 have HOW:=qh (show a0v w.heap.size (w.alloc (.cells #[] 9)) (.slice (some ⟨w.heap.size,0,none⟩) 0 0) [] from by have h:=World.ownsRow_lit (base:=w.heap.size) (e:=9) (size:=1) w #[] 0 lZ (Nat.zero_le _) sZ;simpa [a0v,a3j] using h)
 have HB0:=qh ((Below.refl w.heap.size w).alloc lZ (.cells #[] 9))
 go_wp2
 go_loopw [3,11] (fun v i wr=>∃k:Nat,k≤st.length∧i=.int .i64 k∧(∃ws,ws=(st.take k).map P.fmt∧a0v w.heap.size wr v ws)∧Below w.heap.size w wr) (fun _ i _=>st.length-(intOf i).toNat)
 case atStart=>exact⟨0,Nat.zero_le _,rfl,⟨_,rfl,HOW.o⟩,HB0.o⟩
 case round=>
  obtain⟨k,hk,rfl,⟨ws,hws,hown⟩,hbel⟩:=hrel;have HOWN:=qh hown;have HBEL:=qh hbel;have HWS:=qh hws;have hsz:=HBEL.o.size;clear hown hbel hws HOW HB0
  by_cases hlt:k<st.length
  ·obtain⟨m,hm,hms,hmd⟩:=P.a8i HSL.o hlt;have HMS:=qh hms;obtain⟨g,o,hga,hgl,c0⟩:=(HUS.o.below HBEL.o).at k hlt;subst hga;rw [hm]at c0;have HSN:=qh (show ws++[P.fmt (m:Int)]=(st.take (k+1)).map P.fmt from by rw [HWS.o,a0f st k hlt,hm,List.map_append];rfl);have i1:(k:Int)<(st.length:Int):=by omega
   clear hm hmd hms
   go_wp2_with fail
   refine (a2t m _ HMS.o).mono ?_;rintro e w1 ⟨rfl,hb⟩;have HO1:=qh (show a0v w.heap.size w1 _ ws from a0h HOWN.o hb lZ);have HB1:=qh (HBEL.o.trans (hb.mono hsz));have hsz1:w.heap.size≤w1.heap.size:=HB1.o.size;have hlm:ws.length≤60:=by rw [HWS.o,List.length_map,List.length_take];omega
   clear hb c0 hgl HOWN HBEL
   go_wp2_with (at_builtin;refine wpList_append_own _ rfl _ _ 43 rfl w.heap.size 9 i0 (.string ⟨#[]⟩) 1 16 Tryz.underlying43 hi hz0 hz1 hz2 rfl dZ _ _ _ rfl (HO1.o.alloc _) ⟨w1.heap.size,0,none⟩ 1 1 [.string (S (P.fmt (m:Int)))] rfl rfl ?c1 ?c2 ?c3 ?c4 ?c5 ?_)
   case c1=>intro j u hj;match j,hj with|0,hj=>(simp at hj;subst hj;simp [Addr.add])
   case c2=>intro u hu;simp at hu;subst hu;rfl
   case c3=>unfold maxLen;omega
   case c4=>omega
   case c5=>simp;omega
   intro v' w2 hown' hgrow _;have R:=qh (L.b0u hsz1 HO1.o HB1.o hown' hgrow);clear hown' hgrow HO1 HB1;go_wp2
   go_roundw
   case rel=>
    repeat apply Exists.intro
    refine⟨?_,rfl⟩;exact⟨k+1,by omega,by go_num,⟨_,HSN.o,R.o.1⟩,R.o.2⟩
   case measure=>simp [intOf];omega
  ·have hkl:k=st.length:=by omega
   subst hkl;have HO1:=qh (show a0v w.heap.size wr _ (st.map P.fmt) from by have h:=HOWN.o;rw [HWS.o,List.take_length]at h;exact h);have HBL:=qh HBEL.o;have hjl:=P.a8j 47 st;clear HOWN HBEL
   go_wp2_with fail
   refine (b8w w.heap.size _ (st.map P.fmt) 47 _ HO1.o (by rw [List.length_map];omega) (by unfold P.fmtS at hjl;omega)).mono ?_;rintro e w1 ⟨rfl,hb⟩;have HB1:=qh (HBL.o.trans (hb.mono hsz));clear hb;go_wp2;go_ret;exact⟨rfl,HB1.o⟩
namespace P
theorem b6y (l:List Pc) (x:Pc):blank (l++[x])=if x.2=[] then blank l+1 else blank l:=by
 unfold blank;rw [List.filter_append,List.length_append]
 by_cases h:x.2=[]
 ·rw [if_pos h,List.filter_cons_of_pos (by simp [h])];rfl
 ·rw [if_neg h,List.filter_cons_of_neg (by simp [h])];rfl
theorem b3j (l:List Pc):blank l≤l.length:=List.length_filter_le _ _
theorem a9s {o:List Int} (h:a0l o=true):a2z o=true:=by
 unfold a0l at h;unfold a2z;simp only [Bool.and_eq_true,decide_eq_true_eq]at h⊢;exact⟨by omega,h.2⟩
end P
set_option maxHeartbeats 8000000
theorem c8r (u:Value) (l:List P.Pc) (w:World) (hu:PcR w u l) :
 Calls Tryz.prog 231 #[u] w fun e w'=>e=.returned (.int .i64 (P.blank l:Int))∧w=w':=by
 have HU:=qh hu
 obtain⟨ad,cap,rfl,hl,_⟩:=hu
 go_enter Tryz.func231,Tryz.ntmps231
 go_wp2
 go_loop [3,4] (fun c i=>∃k:Nat,k≤l.length∧i=.int .i64 k∧c=.int .i64 (P.blank (l.take k):Int)) (fun _ i=>l.length-(intOf i).toNat)
 case atStart=>exact⟨0,Nat.zero_le _,rfl,rfl⟩
 case round=>
  obtain⟨k,hk,rfl,rfl⟩:=hrel
  by_cases hlt:k<l.length
  ·obtain⟨g,o,hga,hgl,c0,c1,c2⟩:=HU.o.at k hlt;subst hga;have i1:(k:Int)<(l.length:Int):=by omega
   have HS:=qh (show P.blank (l.take (k+1))=if l[k].2=[] then P.blank (l.take k)+1 else P.blank (l.take k) from by rw [a0f l k hlt,P.b6y]);have hbl:=P.b3j (l.take k);have hbk:P.blank (l.take k)≤k:=by rw [List.length_take]at hbl;omega
   clear hbl;generalize P.blank (l.take k)=bk at *
   by_cases he:l[k].2=[]
   ·rw [he]at c2;have HS2:=qh (HS.o.trans (if_pos he));clear HS he;go_wp2
    go_round
    case rel=>exact⟨k+1,by omega,by go_num,by rw [HS2.o];go_num⟩
    case measure=>simp [intOf];omega
   ·have f1:(l[k].2==[])=false:=by simpa using he
    have HS2:=qh (HS.o.trans (if_neg he));clear HS;generalize l[k].2=tx at *;go_wp2
    go_round
    case rel=>exact⟨k+1,by omega,by go_num,by rw [HS2.o]⟩
    case measure=>simp [intOf];omega
  ·have hkl:k=l.length:=by omega
   subst hkl;have HTL:=qh (List.take_length (l:=l))
   try rw [HTL.o]
   go_wp2;go_ret;exact⟨rfl,rfl⟩
theorem count_one (p:P.Pc) (w:World) :
 Calls Tryz.prog 218 #[.agg #[.int .i64 p.1.1,.int .i64 p.1.2,.string (S p.2)]] w fun e w'=>e=.returned (.bool p.2.isEmpty)∧Below w.heap.size w w':=by
 have HB:=qh ((Below.refl w.heap.size w).alloc lZ (.cells #[.int .i64 p.1.1,.int .i64 p.1.2,.string (S p.2)] 173))
 obtain⟨⟨a,b⟩,t⟩:=p
 simp only at HB⊢
 go_enter Tryz.func218,Tryz.ntmps218
 go_wp2
 go_ret
 exact⟨rfl,HB.o⟩
theorem c4z (u:Value) (l:List P.Pc) (w:World) (hu:PcR w u l) (hl60:l.length≤60) :
 Calls Tryz.prog 217 #[u,.func (Fn.func 218) #[] #[]] w
  fun e w'=>(∃ad cap,e=.returned (.slice ad (P.blank l) cap))∧Below w.heap.size w w':=by
 obtain⟨i0,hi,hz0,hz1,hz2⟩:=info_parts c3b
 have HU:=qh hu
 have HB0:=qh ((Below.refl w.heap.size w).alloc lZ (.cells #[] 173))
 have HO0:=qh (show OwnP w.heap.size (w.alloc (.cells #[] 173)) (.slice (some ⟨w.heap.size,0,none⟩) 0 0) [] by have h:=World.ownsRow_lit (base:=w.heap.size) (e:=173) (size:=3) w #[] 0 lZ (Nat.zero_le _) sZ;simpa [OwnP,a4f] using h)
 obtain⟨ad,cap,rfl,hl,_⟩:=hu
 go_enter Tryz.func217,Tryz.ntmps217
 go_wp2_with fail
 go_loopw [5,11] (fun s i wr=>∃(j:Nat) (xs:List P.Pc),j≤l.length∧i=.int .i64 j∧xs.length=P.blank (l.take j)∧OwnP w.heap.size wr s xs∧Below w.heap.size w wr) (fun _ i _=>l.length-(intOf i).toNat)
 case atStart=>exact⟨0,[],Nat.zero_le _,rfl,rfl,HO0.o,HB0.o⟩
 case round=>
  obtain⟨j,xs,hj,rfl,hxl,hown,hb⟩:=hrel;have HOW:=qh hown;have HB:=qh hb;have HZ:=qh hb.size;have HXL:=qh hxl;have hbl:=P.b3j (l.take j);have hxn:xs.length≤j:=by rw [List.length_take]at hbl;omega
  obtain⟨ua,uc,rfl⟩:=OwnP.form hown;clear hbl hown hxl HO0 HB0
  by_cases hlt:j<l.length
  ·obtain⟨g,o,hga,hgl,c0,c1,c2⟩:=(HU.o.below hb).at j hlt;subst hga;have i1:(j:Int)<(l.length:Int):=by omega
   have HS:=qh (show P.blank (l.take (j+1))=if l[j].2=[] then P.blank (l.take j)+1 else P.blank (l.take j) from by rw [a0f l j hlt,P.b6y]);generalize l[j]=x at *;obtain⟨⟨a,b⟩,t⟩:=x;simp only at c0 c1 c2 HS;have hba:=(Below.refl wr.heap.size wr).alloc lZ (.cells #[.int .i64 a,.int .i64 b,.string (S t)] 173);have HBA:=qh hba;have d0:(wr.alloc (.cells #[.int .i64 a,.int .i64 b,.string (S t)] 173)).cell? ⟨wr.heap.size,0,none⟩=some (.int .i64 a):=by go_simp
   have d1:(wr.alloc (.cells #[.int .i64 a,.int .i64 b,.string (S t)] 173)).cell? ⟨wr.heap.size,1,none⟩=some (.int .i64 b):=by go_simp
   have d2:(wr.alloc (.cells #[.int .i64 a,.int .i64 b,.string (S t)] 173)).cell? ⟨wr.heap.size,2,none⟩=some (.string (S t)):=by go_simp
   have HDD:=qh (And.intro d0 (And.intro d1 d2));clear hb hba d0 d1 d2
   go_wp2_with fail
   refine (count_one ((a,b),t) _).mono ?_;rintro e v1 ⟨rfl,hb1⟩;have hzv:wr.heap.size+1≤v1.heap.size:=by have:=hb1.size;simp at this;omega
   have e0:=(hb1.cell (p:=⟨wr.heap.size,0,none⟩) sZ).trans HDD.o.1;have e1:=(hb1.cell (p:=⟨wr.heap.size,1,none⟩) sZ).trans HDD.o.2.1;have e2:=(hb1.cell (p:=⟨wr.heap.size,2,none⟩) sZ).trans HDD.o.2.2;have HB1:=qh (HBA.o.trans (hb1.mono sZ));have HBW:=qh (HB.o.trans (HB1.o.mono HZ.o));have HOW1:=qh (a0h HOW.o HB1.o lZ);clear hb1 HBA HDD c0 c1 c2
   by_cases ht:t=[]
   ·have HS2:=qh (HS.o.trans (if_pos ht));have f1:t.isEmpty=true:=by rw [ht];rfl
    have HOA:=qh (show (v1.alloc (.cells #[.int .i64 a,.int .i64 b,.string (S t)] 173)).ownsRow w.heap.size 173 3 (.slice ua xs.length uc) xs.length (a4f xs) from World.ownsRow.alloc HOW1.o _);have HZ1:=qh HBW.o.size;simp only [f1];clear ht HS f1
    go_wp2_with (at_builtin;refine wpList_append_own _ rfl _ _ 115 rfl w.heap.size 173 i0 (.agg #[.int .i64 0,.int .i64 0,.string ⟨#[]⟩]) 3 32 Tryz.underlying115 hi hz0 hz1 hz2 rfl dZ (.slice ua xs.length uc) xs.length (a4f xs) rfl HOA.o ⟨v1.heap.size,0,none⟩ 1 1 [.int .i64 a,.int .i64 b,.string (S t)] rfl rfl ?_ ?_ ?_ ?_ ?_ ?_)
    all_goals first|exact⟨rfl,rfl⟩|(intro z hz;simp only [List.mem_cons,List.not_mem_nil,or_false]at hz;rcases hz with rfl|rfl|rfl<;>rfl)|(unfold maxLen;omega)|omega|(have h1:=HZ1.o;simp;omega)|(intro i z hz;rcases i with _|_|_|i;(injection hz with hz;subst hz;rw [add0];go_simp);(injection hz with hz;subst hz;rw [add0];go_simp);(injection hz with hz;subst hz;rw [add0];go_simp);cases hz)|skip
    intro u4 w4 hown hgr _;have HO4:=qh (show OwnP w.heap.size w4 u4 (xs++[((a,b),t)]) by unfold OwnP;rw [List.length_append,b5s];exact hown);have HB4:=qh ((HBW.o.alloc HBW.o.size _).grown hgr (by have:=HZ1.o;simp;omega) (fun k hk=>(World.ownsRow.lt HOA.o k hk).1));clear hown hgr e0 e1 e2;go_wp2
    go_roundw
    case rel=>exact⟨j+1,xs++[((a,b),t)],by omega,by go_num,by rw [HS2.o,List.length_append,HXL.o];rfl,HO4.o,HB4.o⟩
    case measure=>simp [intOf];omega
   ·have HS2:=qh (HS.o.trans (if_neg ht))
    have f1:t.isEmpty=false:=by cases t with
     |nil=>exact absurd rfl ht
     |cons _ _=>rfl
    simp only [f1];clear ht HS f1;go_wp2
    go_roundw
    case rel=>exact⟨j+1,xs,by omega,by go_num,by rw [HS2.o];exact HXL.o,HOW1.o,HBW.o⟩
    case measure=>simp [intOf];omega
  ·have hjl:j=l.length:=by omega
   subst hjl;have HX2:=qh (show xs.length=P.blank l by rw [HXL.o,List.take_length]);clear hb;go_wp2;go_ret;exact⟨⟨ua,uc,by rw [←HX2.o];rfl⟩,HB.o⟩
theorem c8t (u:Value) (l:List P.Pc) (w:World) (hu:PcR w u l) (hl60:l.length≤60) :
 Calls Tryz.prog 146 #[u] w fun e w'=>e=.returned (.int .i64 (P.blank l:Int))∧Below w.heap.size w w':=by
 have HU:=qh hu
 obtain⟨ad,cap,rfl,hl,_⟩:=hu
 go_enter Tryz.func146,Tryz.ntmps146
 go_wp2_with fail
 refine (c4z _ l _ HU.o hl60).mono ?_
 rintro e w1 ⟨⟨ua,uc,rfl⟩,hb⟩
 have HB:=qh hb
 clear hb
 go_wp2
 go_ret
 exact⟨rfl,HB.o⟩
theorem c6v (u:Value) (o:List Int) (w:World) (hu:IntR w u o) (ho:P.a0l o=true) :
 Calls Tryz.prog 118 #[u] w fun e w'=>e=.returned (.string (S (P.fmtS 47 o)))∧Below w.heap.size w w':=by
 have HU:=qh hu;have HSL:=qh (P.a9s ho)
 have hs6:=(P.a1n ho).2
 obtain⟨ad,cap,rfl,_,_⟩:=hu
 clear ho
 go_enter Tryz.func118,Tryz.ntmps118
 go_wp2
 go_loopw [3,4] (fun v i wr=>∃k:Nat,k≤o.length∧i=.int .i64 k∧v=.string (S (P.fmtS 47 (o.take k)))∧Below w.heap.size w wr) (fun _ i _=>o.length-(intOf i).toNat)
 case atStart=>exact⟨0,Nat.zero_le _,rfl,rfl,Below.refl _ _⟩
 case round=>
  obtain⟨k,hk,rfl,rfl,hbk⟩:=hrel;have HBK:=qh hbk;clear hbk
  by_cases hlt:k<o.length
  ·obtain⟨m,hm',hms,hmd⟩:=P.a8i HSL.o hlt;have HM:=qh (show m<2^23 by unfold P.a0p at hms;simp only [decide_eq_true_eq]at hms;omega);obtain⟨g,p,hga,hgl,d0⟩:=(HU.o.below HBK.o).at k hlt;subst hga;rw [hm']at d0;have i1:(k:Int)<(o.length:Int):=by omega
   have hfl:=P.a8j 47 (o.take k);have htk:(o.take k).length=k:=by rw [List.length_take];omega
   have HFM:=qh (P.a7p (m:Int));have hfl2:(P.fmtS 47 (o.take k)).length≤2820:=by rw [htk]at hfl;omega
   clear hfl
   by_cases hk0:k=0
   ·subst hk0;have HSN:=qh (show P.fmtS 47 (o.take (0+1))=P.fmtS 47 (o.take 0)++P.fmt (m:Int) from by rw [a0f o 0 hlt,hm'];exact P.d4x 47 (m:Int));clear hm' hmd hms htk;rw [Nat.add_zero]at d0;generalize P.fmtS 47 (o.take 0)=ff at *
    go_wp2_with fail
    refine (b0r m _ HM.o).mono ?_;rintro e w2 ⟨rfl,hb⟩;have HB2:=bt HBK hb;have hfm:=HFM.o;generalize P.fmt (m:Int)=fm at *;have j1:¬9223372036854775807<ff.length+fm.length:=by omega
    clear hb d0 HBK;go_wp2
    go_roundw
    case rel=>
     repeat apply Exists.intro
     refine⟨?_,rfl⟩;exact⟨0+1,by omega,by go_num,by rw [HSN.o],HB2.o⟩
    case measure=>simp [intOf];omega
   ·have HSN:=qh (show P.fmtS 47 (o.take (k+1))=P.fmtS 47 (o.take k)++[47]++P.fmt (m:Int) from by rw [a0f o k hlt,hm'];exact P.d0q 47 _ _ (fun h=>by rw [h]at htk;simp at htk;omega));have i2:(0:Int)<(k:Int):=by omega
    clear hm' hmd hms;generalize P.fmtS 47 (o.take k)=ff at *;have j0:¬9223372036854775807<ff.length+1:=by omega
    go_wp2_with fail
    refine (b0r m _ HM.o).mono ?_;rintro e w2 ⟨rfl,hb⟩;have HB2:=bt HBK hb;have hfm:=HFM.o;generalize P.fmt (m:Int)=fm at *;have j1:¬9223372036854775807<ff.length+1+fm.length:=by omega
    clear hb d0 HBK;go_wp2
    go_roundw
    case rel=>
     repeat apply Exists.intro
     refine⟨?_,rfl⟩;exact⟨k+1,by omega,by go_num,by rw [HSN.o];simp,HB2.o⟩
    case measure=>simp [intOf];omega
  ·have hkl:k=o.length:=by omega
   subst hkl;have HTL:=qh (List.take_length (l:=o))
   try rw [HTL.o]
   go_wp2;go_ret;exact⟨rfl,HBK.o⟩
namespace P
theorem b5z (t:Bs) (l:Dic) (e:Ent):a1w t (l++[e])=a1w t l++if e.2==t then [e.1] else []:=by
 unfold a1w;rw [List.filter_append,List.map_append]
 cases h:e.2==t<;>simp [List.filter,h]
theorem a8h (t:Bs) (l:Dic):(a1w t l).length≤l.length:=by
 unfold a1w;rw [List.length_map];exact List.length_filter_le _ _
theorem a8t {t:Bs} {d:Dic} (h:dic d=true):∀o∈a1w t d,a0l o=true:=by
 intro o ho;unfold a1w at ho;obtain⟨e,he,rfl⟩:=List.mem_map.1 ho;have h1:=(a5w h).2.1 e (List.mem_filter.1 he).1;unfold entry at h1;simp only [Bool.and_eq_true]at h1;exact h1.1
end P
theorem d7a {B B':Nat} {v:World} {u y:Value} {n:Nat} {xs:List Value} {l:List Int} (h1:v.ownsRow B 33 1 u n xs) (h2:OwnK B' v y l) (k:Nat) (hk:y.ownBlock=some k):u.ownBlock≠some k:=by
 intro hu
 rcases h1.2 with⟨rfl,_⟩|⟨g,cap,cur,rfl,_,hh,_⟩
 ·simp [Value.ownBlock]at hu
 rcases h2.2 with⟨rfl,_⟩|⟨g2,cap2,cur2,rfl,_,hh2,_⟩
 ·simp [Value.ownBlock]at hk
 simp [Value.ownBlock]at hu hk;subst hu;subst hk;rw [hh]at hh2;injection hh2 with hh2;injection hh2 with _ e2 _;exact absurd e2 dZ
structure RevI (w:World) (B:Nat) (u:Value) (its:List (Value×List Int)) (v:World):Prop where
 row:v.ownsRow B 33 1 u its.length (its.map (·.1))
 els:∀it∈its,OwnK B v it.1 it.2
 bel:Below w.heap.size w v
 lo:w.heap.size≤B∧B≤v.heap.size
theorem RevI.below {w:World} {B:Nat} {u:Value} {its:List (Value×List Int)} {v v':World} (h:RevI w B u its v) (hb:Below v.heap.size v v'):RevI w B u its v':=
 ⟨a0h h.row hb lZ,fun it hi=>a0h (h.els it hi) hb lZ,h.bel.trans (hb.mono h.bel.size),h.lo.1,Nat.le_trans h.lo.2 hb.size⟩
theorem RevI.form {w:World} {B:Nat} {u:Value} {its:List (Value×List Int)} {v:World} (h:RevI w B u its v):∃a c,u=.slice a its.length c:=by
 rcases h.row.2 with⟨rfl,h0⟩|⟨g,cap,cur,hv,_⟩
 ·exact⟨none,0,by rw [h0]⟩
 ·exact⟨_,cap,hv⟩
theorem RevI.app {w:World} {B:Nat} {u u' x:Value} {o:List Int} {its:List (Value×List Int)} {v z:World} {ob:Obj} (h:RevI w B u its v) (hx:OwnK B v x o)
 (hown:z.ownsRow B 33 1 u' (its.length+1) (its.map (·.1)++[x])) (hgr:(v.alloc ob).grownBy z u.ownBlock):RevI w B u' (its++[(x,o)]) z:=by
 have hba:=(Below.refl v.heap.size v).alloc lZ ob
 have h1:=h.below hba
 have hc:=a5q hgr
 refine⟨by rw [List.length_append,List.map_append];exact hown,fun it hi=>?_,?_,h.lo.1,Nat.le_trans h1.lo.2 hc.size⟩
 ·rcases List.mem_append.1 hi with hi|hi
  ·exact a0j (h1.els it hi) hc (d7a h1.row (h1.els it hi))
  ·rw [List.mem_singleton.1 hi];have hx1:=a0h hx hba lZ;exact a0j hx1 hc (d7a h1.row hx1)
 ·exact h1.bel.grown hgr h1.bel.size (fun k hk=>Nat.le_trans h.lo.1 (World.ownsRow.lt h1.row k hk).1)
theorem RevI.at {w:World} {B:Nat} {a:Option Addr} {n c:Nat} {its:List (Value×List Int)} {v:World} (h:RevI w B (.slice a n c) its v) (j:Nat) (hj:j<its.length):∃g,a=some ⟨g,0,none⟩∧B≤g∧g<v.heap.size∧v.cell? ⟨g,j,none⟩=some (its[j]'hj).1:=by
 rcases id h.row.2 with⟨_,h0⟩|⟨g,cap,cur,hv,hg,_⟩
 ·omega
 ·have hob:(Value.slice a n c).ownBlock=some g:=by rw [hv];rfl
  injection hv with e1 e2 e3;have hc:=World.ownsRow.cells h.row hob j (its[j]'hj).1 (by rw [List.getElem?_map,List.getElem?_eq_getElem hj];rfl);rw [add0]at hc;exact⟨g,e1,hg,(World.ownsRow.lt h.row g hob).2,hc⟩
theorem RevI.nil (w v:World) (hb:Below w.heap.size w v):RevI w v.heap.size (.slice (some ⟨v.heap.size,0,none⟩) 0 0) [] (v.alloc (.cells #[] 33)):=
 ⟨by have h:=World.ownsRow_lit (base:=v.heap.size) (e:=33) (size:=1) v #[] 0 lZ (Nat.zero_le _) sZ;simpa using h,by simp,hb.alloc hb.size _,hb.size,by simp⟩
def d2d (t:Str) (l:P.Dic) (w:World) (e:Ending) (w':World):Prop:=
 ∃u its B,e=.returned (.tuple #[u,.bool (P.dic l)])∧its.map (·.2)=(if P.dic l then P.a1w t l else [])∧RevI w B u its w'
theorem a9u (dv:Value) (l:P.Dic) (t:Str) (w:World) (hu:EntR w dv l) (hs:Small l) (hE:Env w) :
 Calls Tryz.prog 213 #[.agg #[dv],.string (S t)] w (d2d t l w):=by
 obtain⟨i0,hi,hz0,hz1,hz2⟩:=info_parts d3e
 have hb0:=(Below.refl w.heap.size w).alloc lZ (.cells #[dv] 26)
 have HU:=qh hu;have HB0:=qh hb0
 have HBX:=qh (Box1.new dv 26 w)
 have HE:=qh (hE.below hb0 hE.size)
 have HU0:=qh (hu.below hb0)
 obtain⟨ad,cap,rfl,hll,_⟩:=hu
 clear hb0
 go_enter Tryz.func213,Tryz.ntmps213
 go_wp2_with fail
 refine (a1k _ l _ HU0.o hs.texts HE.o).mono ?_
 rintro e w1 ⟨rfl,hb⟩
 have HBX1:=qh (HBX.o.below hb);have HB1:=bt HB0 hb
 clear hb HB0 HBX HE HU0
 cases hd:P.dic l
 ·have HD:=qh hd;clear hd;go_wp2;go_ret2;exact⟨.slice none 0 0,[],w.heap.size,by rw [HD.o];rfl,by rw [HD.o];rfl,World.ownsRow_nil _ _ _ _,by simp,HB1.o,Nat.le_refl _,HB1.o.size⟩
 ·have HD:=qh hd;have hl40:=P.b3t hd;clear hd;obtain⟨a0,az⟩:=HBX1.o;have HI0:=qh (RevI.nil w w1 HB1.o);have b0:(w1.alloc (.cells #[] 33)).cell? ⟨w.heap.size,0,none⟩=some (.slice ad l.length cap):=by go_simp
  clear HB1 HBX1;go_wp2
  go_loopw [6,16] (fun s i wr=>∃(j:Nat) (its:List (Value×List Int)),j≤l.length∧i=.int .i64 j∧its.map (·.2)=P.a1w t (l.take j)∧RevI w w1.heap.size s its wr) (fun _ i _=>l.length-(intOf i).toNat)
  case atStart=>exact⟨0,[],Nat.zero_le _,rfl,rfl,HI0.o⟩
  case round=>
   obtain⟨j,its,hj,rfl,hmap,hI⟩:=hrel;have HI:=qh hI;have HM:=qh hmap;obtain⟨ua,uc,rfl⟩:=hI.form;have hil:its.length≤40:=by have h1:=congrArg List.length hmap;rw [List.length_map]at h1;have h2:=P.a8h t (l.take j);rw [List.length_take]at h2;omega
   clear HI0 hmap hI
   by_cases hlt:j<l.length
   ·obtain⟨g,p,hga,hgs,x,c0,c1,hx⟩:=(HU.o.below HI.o.bel).at j hlt;subst hga;have HX:=qh hx;have HS:=qh (show P.a1w t (l.take (j+1))=P.a1w t (l.take j)++if l[j].2==t then [l[j].1] else [] by rw [a0f l j hlt,P.b5z]);have hol:l[j].1.length≤2^20:=hs.outs _ (List.getElem_mem hlt);generalize l[j]=en at *;obtain⟨eo,et⟩:=en;obtain⟨xd,xc,rfl,_,_⟩:=hx;simp only at HX HS c1 hol;have i1:(j:Int)<(l.length:Int):=by omega
    have hba:=(Below.refl wr.heap.size wr).alloc lZ (.cells #[.slice xd eo.length xc,.string (S et)] 119);have HI2:=qh (HI.o.below hba);have HX2:=qh (HX.o.below hba);have HZ2:=qh (HI.o.bel.size);clear hba HI HX
    cases hq:et==t
    ·have HS2:=qh (HS.o.trans (by rw [hq];simp:_=P.a1w t (l.take j)));clear HS;go_wp2
     go_roundw
     case rel=>exact⟨j+1,its,by omega,by go_num,by rw [HS2.o];exact HM.o,HI2.o⟩
     case measure=>simp [intOf];omega
    ·have HS2:=qh (HS.o.trans (by rw [hq];rfl:_=P.a1w t (l.take j)++[eo]));clear HS
     go_wp2_with fail
     refine (a8k _ eo _ HX2.o oZ).mono ?_;rintro e v1 ⟨y,rfl,hy,hb⟩;have HI3:=qh (HI2.o.below hb);have HY:=qh (show OwnK w1.heap.size v1 y eo from a0y hy HI2.o.lo.2);have HZ3:=qh HI3.o.lo.2;have HOA:=qh (show (v1.alloc (.cells #[y] 33)).ownsRow w1.heap.size 33 1 (.slice ua its.length uc) its.length (its.map (·.1)) from World.ownsRow.alloc HI3.o.row _);obtain⟨ya,yc,rfl⟩:=a0i HY.o;clear hb hy
     go_wp2_with (at_builtin;refine wpList_append_own _ rfl _ _ 215 rfl w1.heap.size 33 i0 (.slice none 0 0) 1 24 Tryz.underlying215 hi hz0 hz1 hz2 rfl dZ (.slice ua its.length uc) its.length (its.map (·.1)) rfl HOA.o ⟨v1.heap.size,0,none⟩ 1 1 [.slice ya eo.length yc] rfl rfl ?_ ?_ ?_ ?_ ?_ ?_)
     all_goals first|exact⟨rfl,rfl⟩|(intro z hz;simp only [List.mem_cons,List.not_mem_nil,or_false]at hz;subst hz;rfl)|(unfold maxLen;omega)|omega|(have h1:=HZ3.o;simp;omega)|(intro i z hz;rcases i with _|i;(injection hz with hz;subst hz;rw [add0];go_simp);cases hz)|skip
     intro u4 w4 hown hgr _;have HFIN:=qh (HI3.o.app HY.o hown hgr);clear hown hgr;go_wp2
     go_roundw
     case rel=>exact⟨j+1,its++[(.slice ya eo.length yc,eo)],by omega,by go_num,by rw [HS2.o,List.map_append,HM.o];rfl,HFIN.o⟩
     case measure=>simp [intOf];omega
   ·exact zq110
theorem b0k (dv:Value) (l:P.Dic) (t:Str) (w:World) (hu:EntR w dv l) (hs:Small l) :
 Calls Tryz.prog 241 #[.agg #[dv],.string (S t)] w (d2d t l w):=by
 obtain⟨i0,hi,hz0,hz1,hz2⟩:=info_parts d3e
 have hb0:=(Below.refl w.heap.size w).alloc lZ (.cells #[dv] 26)
 have HU:=qh hu;have HB0:=qh hb0
 have HBX:=qh (Box1.new dv 26 w)
 have hb1:=hb0.alloc sZ (.cells #[] 33)
 have HU1:=qh (hu.below hb1)
 obtain⟨ad,cap,rfl,hll,_⟩:=hu
 have HI00:=qh (show RevI w (w.heap.size+1) (.slice (some ⟨w.heap.size+1,0,none⟩) 0 0) [] ((w.alloc (.cells #[.slice ad l.length cap] 26)).alloc (.cells #[] 33)) from by have h:=RevI.nil w (w.alloc (.cells #[.slice ad l.length cap] 26)) HB0.o;simpa using h)
 have HBX0:=qh (HBX.o.below (bZ.alloc lZ (.cells #[] 33)))
 clear hb0 hb1 HBX HB0
 go_enter Tryz.func241,Tryz.ntmps241
 go_upto_region 2 with fail
 generalize (w.alloc (.cells #[.slice ad l.length cap] 26)).alloc (.cells #[] 33)=v0 at *
 obtain⟨b00,bz0⟩:=HBX0.o
 go_wp2_with fail
 refine (c1d _ l _ HU1.o hs.texts).mono ?_
 rintro e w1 ⟨rfl,hb⟩
 have HBX1:=qh (HBX0.o.below hb);have HI0:=qh (HI00.o.below hb)
 clear hb HBX0 HU1 HI00 b00 bz0
 cases hd:P.dic l
 ·have HD:=qh hd;clear hd;go_wp2;go_ret2;exact⟨_,[],_,by rw [HD.o];rfl,by rw [HD.o];rfl,HI0.o⟩
 ·have HD:=qh hd;have hl40:=P.b3t hd;clear hd;go_wp2
  go_loopw [6,7] (fun s i wr=>∃(j:Nat) (its:List (Value×List Int)),j≤l.length∧i=.int .i64 j∧its.map (·.2)=P.a1w t (l.take j)∧RevI w (w.heap.size+1) s its wr∧Box1 w.heap.size (.slice ad l.length cap) wr) (fun _ i _=>l.length-(intOf i).toNat)
  case atStart=>exact⟨0,[],Nat.zero_le _,rfl,rfl,HI0.o,HBX1.o⟩
  case round=>
   obtain⟨j,its,hj,rfl,hmap,hI,hbx⟩:=hrel;have HI:=qh hI;have HM:=qh hmap;have HBX:=qh hbx;obtain⟨b0,bz⟩:=hbx;obtain⟨ua,uc,rfl⟩:=hI.form;have hil:its.length≤40:=by have h1:=congrArg List.length hmap;rw [List.length_map]at h1;have h2:=P.a8h t (l.take j);rw [List.length_take]at h2;omega
   clear HI0 HBX1 hmap hI
   by_cases hlt:j<l.length
   ·obtain⟨g,p,hga,hgs,x,c0,c1,hx⟩:=(HU.o.below HI.o.bel).at j hlt;subst hga;have HX:=qh hx;have HS:=qh (show P.a1w t (l.take (j+1))=P.a1w t (l.take j)++if l[j].2==t then [l[j].1] else [] by rw [a0f l j hlt,P.b5z]);have hol:l[j].1.length≤2^20:=hs.outs _ (List.getElem_mem hlt);generalize l[j]=en at *;obtain⟨eo,et⟩:=en;obtain⟨xd,xc,rfl,_,_⟩:=hx;simp only at HX HS c1 hol;have i1:(j:Int)<(l.length:Int):=by omega
    cases hq:et==t
    ·have HS2:=qh (HS.o.trans (by rw [hq];simp:_=P.a1w t (l.take j)));clear HS;go_wp2
     go_roundw
     case rel=>exact⟨j+1,its,by omega,by go_num,by rw [HS2.o];exact HM.o,HI.o,HBX.o⟩
     case measure=>simp [intOf];omega
    ·have HS2:=qh (HS.o.trans (by rw [hq];rfl:_=P.a1w t (l.take j)++[eo]));clear HS
     go_wp2_with fail
     refine (c5x _ eo _ HX.o oZ).mono ?_;rintro e v1 ⟨y,rfl,hy,hb⟩;have HI3:=qh (HI.o.below hb);have HY:=qh (show OwnK (w.heap.size+1) v1 y eo from a0y hy HI.o.lo.2);have HZ3:=qh HI3.o.lo.2;have HOA:=qh (show (v1.alloc (.cells #[y] 33)).ownsRow (w.heap.size+1) 33 1 (.slice ua its.length uc) its.length (its.map (·.1)) from World.ownsRow.alloc HI3.o.row _);obtain⟨ya,yc,rfl⟩:=a0i HY.o;have HBB:=qh hb;have hzz:=HI3.o.bel.size;clear hb hy b0 bz
     go_wp2_with (at_builtin;refine wpList_append_own _ rfl _ _ 215 rfl (w.heap.size+1) 33 i0 (.slice none 0 0) 1 24 Tryz.underlying215 hi hz0 hz1 hz2 rfl dZ (.slice ua its.length uc) its.length (its.map (·.1)) rfl HOA.o ⟨v1.heap.size,0,none⟩ 1 1 [.slice ya eo.length yc] rfl rfl ?_ ?_ ?_ ?_ ?_ ?_)
     all_goals first|exact⟨rfl,rfl⟩|(intro z hz;simp only [List.mem_cons,List.not_mem_nil,or_false]at hz;subst hz;rfl)|(unfold maxLen;omega)|omega|(have h1:=HZ3.o;simp;omega)|(intro i z hz;rcases i with _|i;(injection hz with hz;subst hz;rw [add0];go_simp);cases hz)|skip
     intro u4 w4 hown hgr _;have HFIN:=qh (HI3.o.app HY.o hown hgr);have HBX4:=qh (((HBX.o.below HBB.o).below (bZ.alloc lZ (.cells #[.slice ya eo.length yc] 33))).a0e (a5q hgr) (fun h=>by have h1:=(World.ownsRow.lt HOA.o _ h).1;omega));clear hown hgr;go_wp2
     go_roundw
     case rel=>exact⟨j+1,its++[(.slice ya eo.length yc,eo)],by omega,by go_num,by rw [HS2.o,List.map_append,HM.o];rfl,HFIN.o,HBX4.o⟩
     case measure=>simp [intOf];omega
   ·exact zq110
namespace P
theorem b9p (s:Bs):Go.Lib.replaceAll s [35] [61]=s.map hash:=by
 rw [b6i dZ];rfl
theorem b8a (l:List Bs):(Go.Lib.join l [32]).map hash=Go.Lib.join (l.map fun x=>x.map hash) [32]:=by
 cases l with
 |nil=>rfl
 |cons x r=>
  rw [List.map_cons,Go.Lib.join_cons,Go.Lib.join_cons,List.map_append]
  congr 1
  induction r with
  |nil=>rfl
  |cons y r ih=>
   unfold Go.Lib.joinTail at ih⊢;simp only [List.map_cons,List.flatten_cons,List.map_append];rw [ih];rfl
def a6y (t:Bs) (d:Dic):List Bs:=(a1w t d).map fun o=>(fmtS 47 o).map hash
theorem d2h (d:Dic) (t:Bs):revT d t=if a1w t d=[] then wNone else Go.Lib.join (a6y t d) [32]:=rfl
theorem c2d {o:List Int} (h:a0l o=true):((fmtS 47 o).map hash).length≤282:=by
 have h1:=a8j 47 o;have h2:=(a1n h).2;rw [List.length_map];omega
theorem c7w {l:List (List Int)} (h:∀o∈l,a0l o=true) (hl:l.length≤40):(Go.Lib.join (l.map fun o=>(fmtS 47 o).map hash) [32]).length≤12000:=by
 have h1:=b8h (l.map fun o=>(fmtS 47 o).map hash) 32 282 (fun x hx=>by obtain⟨o,ho,rfl⟩:=List.mem_map.1 hx;exact c2d (h o ho));rw [List.length_map]at h1;have:l.length*(282+1)≤40*283:=Nat.mul_le_mul_right _ hl;omega
end P
set_option maxHeartbeats 8000000
theorem c0c (x:Str) (w:World) (hE:Env w) (hl:x.length≤2^20) :
 Calls Tryz.prog 107 #[.string (S x),.string (S [35]),.string (S [61])] w fun e w'=>e=.returned (.string (S (x.map P.hash)))∧Below w.heap.size w w':=by
 obtain⟨n,hm⟩:=hE.2
 have hc:=Lib.countB_mul_le (S [35]) dZ (S x).size (S x) lZ
 have hc2:Lib.countB (S x) (S [35])≤x.length:=by rw [S_size,S_size]at hc;simpa using hc
 refine (Tryz.strings_ReplaceAll (S x) (S [35]) (S [61]) n w (by rw [S_size];omega) hm dZ (by rw [S_size,S_size];simp;omega)).mono ?_
 rintro e w' ⟨rfl,hb⟩
 rw [S_dataList,S_dataList,S_dataList,P.b9p]
 exact⟨rfl,hb⟩
theorem d8w {B B':Nat} {v:World} {u y:Value} {n:Nat} {xs:List Value} {l:List Str} (h1:v.ownsRow B 33 1 u n xs) (h2:a0v B' v y l) (k:Nat) (hk:u.ownBlock=some k):y.ownBlock≠some k:=by
 exact zq84
theorem d5v {B B':Nat} {v:World} {u y:Value} {l:List Int} {m:List Str} (h1:OwnK B v u l) (h2:a0v B' v y m) (k:Nat) (hk:u.ownBlock=some k):y.ownBlock≠some k:=by
 exact zq84
theorem RevI.grown {w:World} {B B':Nat} {u y:Value} {its:List (Value×List Int)} {l:List Str} {v z:World} {ob:Obj} (h:RevI w B u its v) (hy:a0v B' v y l) (hw:w.heap.size≤B') (hgr:(v.alloc ob).grownBy z y.ownBlock):RevI w B u its z:=by
 have hba:=(Below.refl v.heap.size v).alloc lZ ob;have h1:=h.below hba;have hy1:=a0h hy hba lZ;have hc:=a5q hgr;exact⟨a0j h1.row hc (d8w h1.row hy1),fun it hi=>a0j (h1.els it hi) hc (d5v (h1.els it hi) hy1),h1.bel.grown hgr h1.bel.size (fun k hk=>Nat.le_trans hw (World.ownsRow.lt hy1 k hk).1),h.lo.1,Nat.le_trans h1.lo.2 hc.size⟩
theorem d4d {B:Nat} {w:World} {v:Value} {l:List Str} (h:a0v B w v l):∃a cap,v=.slice a l.length cap:=by
 exact zq57
theorem b9c (lo B:Nat) (l:P.Dic) (st:List Int) (sc d p:Str) (n:Int) (t:Str) (w:World) (h:SesM lo B (l,(st,sc)) (d,p,n) w) (hm:Small l) (hdc:P.dic l=true) (htl:t.length≤2^20) (hE:L.Env w) :
 Calls Tryz.prog 142 #[.pointer (some ⟨B,0,none⟩),.string (S t)] w (a4o lo B ((l,(st,sc)),P.a5d l t) (d,p,n) w):=by
 obtain⟨i0,hi,hz0,hz1,hz2⟩:=info_parts L.b1b
 have HSM:=qh h
 obtain⟨hEB,hlo,u,us,hS,hR⟩:=h
 have hBz:B<w.heap.size:=hS.1.2.2.2.2.2.2
 have hu:=hR.dic
 simp only at hS hR hu
 obtain⟨ad,cap,rfl,_,_⟩:=id hu
 have HU:=qh hu;have HE:=qh hE;have HDC:=qh hdc
 have HREV:=qh (show P.a5d l t=if (P.a0o t).2 then some (P.revT l t) else none from rfl)
 have HOO:=qh (P.a8t (t:=t) hdc)
 have hl40:=Nat.le_trans (P.a8h t l) (P.b3t hdc)
 have HRT:=qh (P.d2h l t)
 obtain⟨⟨o0,o1,o2,o3,o4,o5,o6⟩,_⟩:=hS
 clear hu hE hdc hR
 go_enter Tryz.func142,Tryz.ntmps142
 go_wp2_with fail
 refine (a9u _ l t _ HU.o hm HE.o.dic).mono ?_
 rintro e w1 ⟨x,its,B1,rfl,hmap,hI⟩
 rw [HDC.o,if_pos rfl]at hmap
 rw [HDC.o]
 have HI:=qh hI
 obtain⟨xa,xc,rfl⟩:=hI.form
 have HM:=qh (show its.map (·.2)=P.a1w t l from hmap)
 have hil:its.length≤40:=by have h1:=congrArg List.length hmap;rw [List.length_map]at h1;omega
 have HOI:=qh (show ∀it∈its,P.a0l it.2=true from fun it hi=>HOO.o it.2 (by rw [←hmap];exact List.mem_map_of_mem hi))
 have HOW:=qh (show a0v w1.heap.size (w1.alloc (.cells #[] 9)) (.slice (some ⟨w1.heap.size,0,none⟩) 0 0) [] from by have h:=World.ownsRow_lit (base:=w1.heap.size) (e:=9) (size:=1) w1 #[] 0 lZ (Nat.zero_le _) sZ;simpa [a0v,a3j] using h)
 have HI1:=qh (hI.below ((Below.refl w1.heap.size w1).alloc lZ (.cells #[] 9)))
 have hzw:=hI.bel.size
 clear hmap hI o0 o1 o2 o3 o4 o5 o6 HI
 go_wp2
 go_loopw [8,23] (fun v i wr=>∃k:Nat,k≤its.length∧i=.int .i64 k∧(∃ws:List Str,ws=(its.take k).map (fun it=>(P.fmtS 47 it.2).map P.hash)∧a0v w1.heap.size wr v ws)∧RevI w B1 (.slice xa its.length xc) its wr∧w1.heap.size≤wr.heap.size) (fun _ i _=>its.length-(intOf i).toNat)
 case atStart=>exact⟨0,Nat.zero_le _,rfl,⟨_,rfl,HOW.o⟩,HI1.o,by simp⟩
 case round=>
  obtain⟨k,hk,rfl,⟨ws,hws,hown⟩,hI,hzr⟩:=hrel;have HOWN:=qh hown;have HI:=qh hI;have HWS:=qh hws;have hwl:ws.length≤40:=by rw [hws,List.length_map,List.length_take];omega
  clear hown hws HOW HI1
  by_cases hlt:k<its.length
  ·obtain⟨g,hga,hgB,hgl,c0⟩:=hI.at k hlt;subst hga;have i1:(k:Int)<(its.length:Int):=by omega
   have hok:=hI.els its[k] (List.getElem_mem hlt);have hol:=HOI.o its[k] (List.getElem_mem hlt);have HSN:=qh (show ws++[(P.fmtS 47 its[k].2).map P.hash]=(its.take (k+1)).map (fun it=>(P.fmtS 47 it.2).map P.hash) from by rw [HWS.o,a0f its k hlt,List.map_append];rfl);generalize its[k]=it at *;obtain⟨y,o⟩:=it;simp only at hok hol c0 HSN;have h6:=(P.a1n hol).2;have hwd:=P.c2d hol;have hfs:=P.a8j 47 o;obtain⟨ya,yc,rfl⟩:=a0i hok;have HK:=qh (a1y hok oZ);have HSL:=qh (P.a9s hol);have HEW:=qh (HE.o.below hI.bel HE.o.size);clear hok hol hI
   go_wp2_with fail
   refine (c8h _ o _ HK.o HSL.o).mono ?_;rintro e w2 ⟨rfl,hb⟩;have HO2:=qh (a0h HOWN.o hb lZ);have HI2:=qh (HI.o.below hb);have HE2:=qh (HEW.o.below hb HEW.o.size);have hy2:w1.heap.size≤w2.heap.size:=Nat.le_trans hzr hb.size;clear hb c0 HEW HI HOWN
   go_wp2_with fail
   refine (c0c (P.fmtS 47 o) _ HE2.o.dic oZ).mono ?_;rintro e w3 ⟨rfl,hb⟩;have HO3:=qh (a0h HO2.o hb lZ);have HI3:=qh (HI2.o.below hb);have hy3:w1.heap.size≤w3.heap.size:=Nat.le_trans hy2 hb.size;clear hb HO2 HI2;generalize (P.fmtS 47 o).map P.hash=nw at *;have HOA:=qh (show (w3.alloc (.cells #[.string (S nw)] 9)).ownsRow w1.heap.size 9 1 _ ws.length (a3j ws) from World.ownsRow.alloc HO3.o _)
   go_wp2_with (at_builtin;refine wpList_append_own _ rfl _ _ 43 rfl w1.heap.size 9 i0 (.string ⟨#[]⟩) 1 16 Tryz.underlying43 hi hz0 hz1 hz2 rfl dZ _ _ _ rfl HOA.o ⟨w3.heap.size,0,none⟩ 1 1 [.string (S nw)] rfl rfl ?c1 ?c2 ?c3 ?c4 ?c5 ?_)
   case c1=>intro j u hj;match j,hj with|0,hj=>(simp at hj;subst hj;simp [Addr.add])
   case c2=>intro u hu;simp at hu;subst hu;rfl
   case c3=>unfold maxLen;omega
   case c4=>omega
   case c5=>simp;omega
   intro v' w4 hown' hgrow _;have HO4:=qh (L.a0v.snoc hown');have HI4:=qh (HI3.o.grown HO3.o oZ hgrow);have hy4:w1.heap.size≤w4.heap.size:=Nat.le_trans (by simp;omega) (a5q hgrow).size;clear hown' hgrow HOA;go_wp2
   go_roundw
   case rel=>exact⟨k+1,by omega,by go_num,⟨_,HSN.o,HO4.o⟩,HI4.o,hy4⟩
   case measure=>simp [intOf];omega
  ·have hkl:k=its.length:=by omega
   subst hkl;have HWW:=qh (show ws=P.a6y t l from by rw [HWS.o,List.take_length];unfold P.a6y;rw [←HM.o,List.map_map];rfl);have HJL:=qh (show (Lib.join (P.a6y t l) [32]).length≤12000 from P.c7w HOO.o hl40);have HEW:=qh (HE.o.below HI.o.bel HE.o.size);have HB0:=qh HI.o.bel;have HLN:=qh (show its.length=(P.a1w t l).length from by rw [←HM.o,List.length_map]);have HWL:=qh (show ws.length=its.length from by rw [HWS.o,List.length_map,List.take_length]);clear hI HWS;obtain⟨va,vc,rfl⟩:=d4d HOWN.o;have hwe:ws.length=its.length:=HWL.o
   by_cases h0:its.length=0
   ·have hnil:ws=[]:=List.eq_nil_of_length_eq_zero oZ;have HRN:=qh (show P.revT l t=[110,111,110,101] from by rw [HRT.o,if_pos (List.eq_nil_of_length_eq_zero (by rw [←HLN.o];exact h0))];rfl);have HLIT:=qh (show a0v wr.heap.size (wr.alloc (.cells #[.string (S [110,111,110,101])] 9)) (.slice (some ⟨wr.heap.size,0,none⟩) 1 1) [[110,111,110,101]] from by have h:=World.ownsRow_lit (base:=wr.heap.size) (e:=9) (size:=1) wr #[.string (S [110,111,110,101])] 1 lZ (by unfold maxLen;omega) sZ;simpa [a0v,a3j] using h);have hba:=(Below.refl wr.heap.size wr).alloc lZ (.cells #[.string (S [110,111,110,101])] 9);have HB1:=bt HB0 hba;have HE1:=qh (HEW.o.below hba HEW.o.size);subst hnil;have f0:((([]:List Str).length:Int)==0)=true:=rfl;clear hba hwe;rw [h0]at *
    go_wp2_with fail
    refine (b8w wr.heap.size _ [[110,111,110,101]] 32 _ HLIT.o sZ dZ).mono ?_;rintro e w2 ⟨rfl,hb⟩;have HB2:=bt HB1 hb;have HE2:=qh (HE1.o.below hb HE1.o.size);clear hb
    go_wp2_with fail
    refine (a6n t _ oZ HE2.o.dic).mono ?_;rintro e w3 ⟨rfl,hb⟩;have HB3:=bt HB2 hb;clear hb;obtain⟨q,hq⟩:∃q,(P.a0o t).2=q:=⟨_,rfl⟩;rw [hq]at HREV⊢;clear hq;go_wp2;go_ret2;exact⟨[110,111,110,101],q,rfl,by show _=P.a5d l t;rw [HREV.o,HRN.o];cases q<;>rfl,HSM.o.below HB3.o,Below.chg HB3.o _⟩
   ·have f0:((its.length:Int)==0)=false:=by rw [beq_eq_false_iff_ne];omega
    have HRN:=qh (show P.revT l t=Lib.join (P.a6y t l) [32] from by rw [HRT.o,if_neg (fun h=>h0 (by rw [HLN.o,h];rfl))]);have hwle:ws.length≤2^20:=by omega
    have HJW:=qh (show (Lib.join ws [32]).length≤2^30 from Nat.le_trans (by rw [HWW.o];exact HJL.o) dZ);have f1:((ws.length:Int)==0)=false:=by rw [beq_eq_false_iff_ne];omega
    clear hwe f0
    go_wp2_with fail
    refine (b8w w1.heap.size _ ws 32 _ HOWN.o hwle HJW.o).mono ?_;rintro e w2 ⟨rfl,hb⟩;have HB2:=bt HB0 hb;have HE2:=qh (HEW.o.below hb HEW.o.size);clear hb
    go_wp2_with fail
    refine (a6n t _ oZ HE2.o.dic).mono ?_;rintro e w3 ⟨rfl,hb⟩;have HB3:=bt HB2 hb;clear hb;obtain⟨q,hq⟩:∃q,(P.a0o t).2=q:=⟨_,rfl⟩;rw [hq]at HREV⊢;clear hq;go_wp2;go_ret2;exact⟨Lib.join ws [32],q,rfl,by show _=P.a5d l t;rw [HREV.o,HRN.o,HWW.o];cases q<;>rfl,HSM.o.below HB3.o,Below.chg HB3.o _⟩
end Go.Proofs.YtggfdnopminemaaGreatDoor
