/- Walks: a session as text (program and reference). -/
import Derived.Test.YtggfdnopminemaaGreatDoorZt
import Derived.Test.YtggfdnopminemaaGreatDoorShelfB
set_option linter.all false
namespace Go.Proofs.YtggfdnopminemaaGreatDoor
open Go Go.RowKit
set_option maxHeartbeats 8000000
set_option maxRecDepth 100000
theorem b5x (B:Nat) (u:Value) (l:List Str) (c:UInt8) (w:World) (h:a0q B w u l) (hl:l.length≤2^20) (hx:(Lib.join l [c]).length≤2^30) :
 Calls Tryz.prog 185 #[u,.string (S [c])] w fun e w'=>e=.returned (.string (S (Lib.join l [c])))∧Below w.heap.size w w':=by
 cases l with
 |nil=>
  have hu:∃a cap,u=.slice a 0 cap:=by
   rcases h.2 with⟨rfl,_⟩|⟨g,cap,cur,rfl,_⟩
   ·exact⟨_,_,rfl⟩
   ·exact⟨_,_,rfl⟩
  obtain⟨a,cap,rfl⟩:=hu;refine (Tryz.strings_Join_none a cap (S [c]) w).mono ?_;rintro e w' ⟨rfl,rfl⟩;exact⟨rfl,Below.refl _ _⟩
 |cons x r=>
  rcases id h.2 with⟨_,h0⟩|⟨g,cap,cur,hv,hg,hh,hnc,_⟩
  ·simp at h0
  ·have hob:u.ownBlock=some g:=by rw [hv];rfl
   have hgl:=(World.ownsRow.lt h g hob).2
   have hj:=Tryz.strings_Join g 0 cap ((x::r).map S) (S [c]) w (by
    intro j y hy
    rw [List.getElem?_map]at hy
    cases hq:(x::r)[j]? with
    |none=>rw [hq]at hy;simp at hy
    |some z=>
     rw [hq]at hy;simp only [Option.map_some,Option.some.injEq]at hy;subst hy;have hc:=World.ownsRow.cells h hob j (.string (S z)) (by unfold a3g;rw [List.getElem?_map,hq];rfl);rw [add0]at hc;rw [Nat.zero_add];exact hc) hgl (by simp at hl⊢;omega) (by simpa using hnc) (by
    rw [List.map_map,S_dataList,show ((fun x:ByteArray=>x.data.toList) ∘ S)=id from funext fun z=>S_dataList z,List.map_id];omega)
   rw [List.length_map]at hj;rw [hv];refine hj.mono ?_;rintro e w' ⟨rfl,hb⟩;refine⟨?_,hb⟩;rw [List.map_map,S_dataList,show ((fun x:ByteArray=>x.data.toList) ∘ S)=id from funext fun z=>S_dataList z,List.map_id];rfl
theorem c3v (us:Value) (st:List Int) (w:World) (hus:IntR w us st) (hs:P.a1t st=true) :
 Calls Tryz.prog 108 #[us] w fun e w'=>e=.returned (.string (S (P.fmtS 47 st)))∧Below w.heap.size w w':=by
 obtain⟨i0,hi,hz0,hz1,hz2⟩:=info_parts L.a8p
 have HUS:=qh hus;have HSL:=qh hs
 have hl60:=P.a4f hs
 obtain⟨sd,sap,rfl,_,_⟩:=hus
 clear hs
 go_enter Tryz.func108,Tryz.ntmps108
 have HOW:=qh (show a0q w.heap.size (w.alloc (.cells #[] 9)) (.slice (some ⟨w.heap.size,0,none⟩) 0 0) [] from by have h:=World.ownsRow_lit (base:=w.heap.size) (e:=9) (size:=1) w #[] 0 lZ (Nat.zero_le _) sZ;simpa [a0q,a3g] using h)
 have HB0:=qh ((Below.refl w.heap.size w).alloc lZ (.cells #[] 9))
 go_wp2
 go_loopw [3,11] (fun v i wr=>∃k:Nat,k≤st.length∧i=.int .i64 k∧(∃ws,ws=(st.take k).map P.fmt∧a0q w.heap.size wr v ws)∧Below w.heap.size w wr) (fun _ i _=>st.length-(intOf i).toNat)
 case atStart=>exact⟨0,Nat.zero_le _,rfl,⟨_,rfl,HOW.o⟩,HB0.o⟩
 case round=>
  obtain⟨k,hk,rfl,⟨ws,hws,hown⟩,hbel⟩:=hrel;have HOWN:=qh hown;have HBEL:=qh hbel;have HWS:=qh hws;have hsz:=HBEL.o.size;clear hown hbel hws HOW HB0
  by_cases hlt:k<st.length
  ·obtain⟨m,hm,hms,hmd⟩:=P.b4f HSL.o hlt;have HMS:=qh hms;obtain⟨g,o,hga,hgl,c0⟩:=(HUS.o.below HBEL.o).at k hlt;subst hga;rw [hm]at c0;have HSN:=qh (show ws++[P.fmt (m:Int)]=(st.take (k+1)).map P.fmt from by rw [HWS.o,a0h st k hlt,hm,List.map_append];rfl);have i1:(k:Int)<(st.length:Int):=by omega
   clear hm hmd hms
   go_wp2_with fail
   refine (a1j m _ HMS.o).mono ?_;rintro e w1 ⟨rfl,hb⟩;have HO1:=qh (show a0q w.heap.size w1 _ ws from a0k HOWN.o hb lZ);have HB1:=qh (HBEL.o.trans (hb.mono hsz));have hsz1:w.heap.size≤w1.heap.size:=HB1.o.size;have hlm:ws.length≤60:=by rw [HWS.o,List.length_map,List.length_take];omega
   clear hb c0 hgl HOWN HBEL
   go_wp2_with (at_builtin;refine wpList_append_own _ rfl _ _ 43 rfl w.heap.size 9 i0 (.string ⟨#[]⟩) 1 16 Tryz.underlying43 hi hz0 hz1 hz2 rfl dZ _ _ _ rfl (HO1.o.alloc _) ⟨w1.heap.size,0,none⟩ 1 1 [.string (S (P.fmt (m:Int)))] rfl rfl ?c1 ?c2 ?c3 ?c4 ?c5 ?_)
   case c1=>intro j u hj;match j,hj with|0,hj=>(simp at hj;subst hj;simp [Addr.add])
   case c2=>intro u hu;simp at hu;subst hu;rfl
   case c3=>unfold maxLen;omega
   case c4=>omega
   case c5=>simp;omega
   intro v' w2 hown' hgrow _;have R:=qh (L.a8r hsz1 HO1.o HB1.o hown' hgrow);clear hown' hgrow HO1 HB1;go_wp2
   go_roundw
   case rel=>
    repeat apply Exists.intro
    refine⟨?_,rfl⟩;exact⟨k+1,by omega,by go_num,⟨_,HSN.o,R.o.1⟩,R.o.2⟩
   case measure=>simp [intOf];omega
  ·have hkl:k=st.length:=by omega
   subst hkl;have HO1:=qh (show a0q w.heap.size wr _ (st.map P.fmt) from by have h:=HOWN.o;rw [HWS.o,List.take_length]at h;exact h);have HBL:=qh HBEL.o;have hjl:=P.b5i 47 st;clear HOWN HBEL
   go_wp2_with fail
   refine (b5x w.heap.size _ (st.map P.fmt) 47 _ HO1.o (by rw [List.length_map];omega) (by unfold P.fmtS at hjl;omega)).mono ?_;rintro e w1 ⟨rfl,hb⟩;have HB1:=qh (HBL.o.trans (hb.mono hsz));clear hb;go_wp2;go_ret;exact⟨rfl,HB1.o⟩
namespace P
theorem c4g (l:List Pc) (x:Pc):blank (l++[x])=if x.2=[] then blank l+1 else blank l:=by
 unfold blank;rw [List.filter_append,List.length_append]
 by_cases h:x.2=[]
 ·rw [if_pos h,List.filter_cons_of_pos (by simp [h])];rfl
 ·rw [if_neg h,List.filter_cons_of_neg (by simp [h])];rfl
theorem c2e (l:List Pc):blank l≤l.length:=List.length_filter_le _ _
theorem b6k {o:List Int} (h:a0l o=true):a1t o=true:=by
 unfold a0l at h;unfold a1t;simp only [Bool.and_eq_true,decide_eq_true_eq]at h⊢;exact⟨by omega,h.2⟩
end P
theorem count_one (p:P.Pc) (w:World) :
 Calls Tryz.prog 218 #[.agg #[.int .i64 p.1.1,.int .i64 p.1.2,.string (S p.2)]] w fun e w'=>e=.returned (.bool p.2.isEmpty)∧Below w.heap.size w w':=by
 have HB:=qh ((Below.refl w.heap.size w).alloc lZ (.cells #[.int .i64 p.1.1,.int .i64 p.1.2,.string (S p.2)] 173))
 obtain⟨⟨a,b⟩,t⟩:=p
 simp only at HB⊢
 go_enter Tryz.func218,Tryz.ntmps218
 go_wp2
 go_ret
 exact⟨rfl,HB.o⟩
theorem c0u (u:Value) (l:List P.Pc) (w:World) (hu:PcR w u l) (hl60:l.length≤60) :
 Calls Tryz.prog 217 #[u,.func (Fn.func 218) #[] #[]] w
  fun e w'=>(∃ad cap,e=.returned (.slice ad (P.blank l) cap))∧Below w.heap.size w w':=by
 obtain⟨i0,hi,hz0,hz1,hz2⟩:=info_parts b9n
 have HU:=qh hu
 have HB0:=qh ((Below.refl w.heap.size w).alloc lZ (.cells #[] 173))
 have HO0:=qh (show OwnP w.heap.size (w.alloc (.cells #[] 173)) (.slice (some ⟨w.heap.size,0,none⟩) 0 0) [] by have h:=World.ownsRow_lit (base:=w.heap.size) (e:=173) (size:=3) w #[] 0 lZ (Nat.zero_le _) sZ;simpa [OwnP,a3u] using h)
 obtain⟨ad,cap,rfl,hl,_⟩:=hu
 go_enter Tryz.func217,Tryz.ntmps217
 go_wp2_with fail
 go_loopw [5,11] (fun s i wr=>∃(j:Nat) (xs:List P.Pc),j≤l.length∧i=.int .i64 j∧xs.length=P.blank (l.take j)∧OwnP w.heap.size wr s xs∧Below w.heap.size w wr) (fun _ i _=>l.length-(intOf i).toNat)
 case atStart=>exact⟨0,[],Nat.zero_le _,rfl,rfl,HO0.o,HB0.o⟩
 case round=>
  obtain⟨j,xs,hj,rfl,hxl,hown,hb⟩:=hrel;have HOW:=qh hown;have HB:=qh hb;have HZ:=qh hb.size;have HXL:=qh hxl;have hbl:=P.c2e (l.take j);have hxn:xs.length≤j:=by rw [List.length_take]at hbl;omega
  obtain⟨ua,uc,rfl⟩:=OwnP.form hown;clear hbl hown hxl HO0 HB0
  by_cases hlt:j<l.length
  ·obtain⟨g,o,hga,hgl,c0,c1,c2⟩:=(HU.o.below hb).at j hlt;subst hga;have i1:(j:Int)<(l.length:Int):=by omega
   have HS:=qh (show P.blank (l.take (j+1))=if l[j].2=[] then P.blank (l.take j)+1 else P.blank (l.take j) from by rw [a0h l j hlt,P.c4g]);generalize l[j]=x at *;obtain⟨⟨a,b⟩,t⟩:=x;simp only at c0 c1 c2 HS;have hba:=(Below.refl wr.heap.size wr).alloc lZ (.cells #[.int .i64 a,.int .i64 b,.string (S t)] 173);have HBA:=qh hba;have d0:(wr.alloc (.cells #[.int .i64 a,.int .i64 b,.string (S t)] 173)).cell? ⟨wr.heap.size,0,none⟩=some (.int .i64 a):=by go_simp
   have d1:(wr.alloc (.cells #[.int .i64 a,.int .i64 b,.string (S t)] 173)).cell? ⟨wr.heap.size,1,none⟩=some (.int .i64 b):=by go_simp
   have d2:(wr.alloc (.cells #[.int .i64 a,.int .i64 b,.string (S t)] 173)).cell? ⟨wr.heap.size,2,none⟩=some (.string (S t)):=by go_simp
   have HDD:=qh (And.intro d0 (And.intro d1 d2));clear hb hba d0 d1 d2
   go_wp2_with fail
   refine (count_one ((a,b),t) _).mono ?_;rintro e v1 ⟨rfl,hb1⟩;have hzv:wr.heap.size+1≤v1.heap.size:=by have:=hb1.size;simp at this;omega
   have e0:=(hb1.cell (p:=⟨wr.heap.size,0,none⟩) sZ).trans HDD.o.1;have e1:=(hb1.cell (p:=⟨wr.heap.size,1,none⟩) sZ).trans HDD.o.2.1;have e2:=(hb1.cell (p:=⟨wr.heap.size,2,none⟩) sZ).trans HDD.o.2.2;have HB1:=qh (HBA.o.trans (hb1.mono sZ));have HBW:=qh (HB.o.trans (HB1.o.mono HZ.o));have HOW1:=qh (a0k HOW.o HB1.o lZ);clear hb1 HBA HDD c0 c1 c2
   by_cases ht:t=[]
   ·have HS2:=qh (HS.o.trans (if_pos ht));have f1:t.isEmpty=true:=by rw [ht];rfl
    have HOA:=qh (show (v1.alloc (.cells #[.int .i64 a,.int .i64 b,.string (S t)] 173)).ownsRow w.heap.size 173 3 (.slice ua xs.length uc) xs.length (a3u xs) from World.ownsRow.alloc HOW1.o _);have HZ1:=qh HBW.o.size;simp only [f1];clear ht HS f1
    go_wp2_with (at_builtin;refine wpList_append_own _ rfl _ _ 115 rfl w.heap.size 173 i0 (.agg #[.int .i64 0,.int .i64 0,.string ⟨#[]⟩]) 3 32 Tryz.underlying115 hi hz0 hz1 hz2 rfl dZ (.slice ua xs.length uc) xs.length (a3u xs) rfl HOA.o ⟨v1.heap.size,0,none⟩ 1 1 [.int .i64 a,.int .i64 b,.string (S t)] rfl rfl ?_ ?_ ?_ ?_ ?_ ?_)
    all_goals first|exact⟨rfl,rfl⟩|(intro z hz;simp only [List.mem_cons,List.not_mem_nil,or_false]at hz;rcases hz with rfl|rfl|rfl<;>rfl)|(unfold maxLen;omega)|omega|(have h1:=HZ1.o;simp;omega)|(intro i z hz;rcases i with _|_|_|i;(injection hz with hz;subst hz;rw [add0];go_simp);(injection hz with hz;subst hz;rw [add0];go_simp);(injection hz with hz;subst hz;rw [add0];go_simp);cases hz)|skip
    intro u4 w4 hown hgr _;have HO4:=qh (show OwnP w.heap.size w4 u4 (xs++[((a,b),t)]) by unfold OwnP;rw [List.length_append,b3m];exact hown);have HB4:=qh ((HBW.o.alloc HBW.o.size _).grown hgr (by have:=HZ1.o;simp;omega) (fun k hk=>(World.ownsRow.lt HOA.o k hk).1));clear hown hgr e0 e1 e2;go_wp2
    go_roundw
    case rel=>exact⟨j+1,xs++[((a,b),t)],by omega,by go_num,by rw [HS2.o,List.length_append,HXL.o];rfl,HO4.o,HB4.o⟩
    case measure=>simp [intOf];omega
   ·have HS2:=qh (HS.o.trans (if_neg ht))
    have f1:t.isEmpty=false:=by cases t with
     |nil=>exact absurd rfl ht
     |cons _ _=>rfl
    simp only [f1];clear ht HS f1;go_wp2
    go_roundw
    case rel=>exact⟨j+1,xs,by omega,by go_num,by rw [HS2.o];exact HXL.o,HOW1.o,HBW.o⟩
    case measure=>simp [intOf];omega
  ·have hjl:j=l.length:=by omega
   subst hjl;have HX2:=qh (show xs.length=P.blank l by rw [HXL.o,List.take_length]);clear hb;go_wp2;go_ret;exact⟨⟨ua,uc,by rw [←HX2.o];rfl⟩,HB.o⟩
theorem c3y (u:Value) (l:List P.Pc) (w:World) (hu:PcR w u l) (hl60:l.length≤60) :
 Calls Tryz.prog 146 #[u] w fun e w'=>e=.returned (.int .i64 (P.blank l:Int))∧Below w.heap.size w w':=by
 have HU:=qh hu
 obtain⟨ad,cap,rfl,hl,_⟩:=hu
 go_enter Tryz.func146,Tryz.ntmps146
 go_wp2_with fail
 refine (c0u _ l _ HU.o hl60).mono ?_
 rintro e w1 ⟨⟨ua,uc,rfl⟩,hb⟩
 have HB:=qh hb
 clear hb
 go_wp2
 go_ret
 exact⟨rfl,HB.o⟩
namespace P
theorem c0s (t:Bs) (l:Dic) (e:Ent):a2x t (l++[e])=a2x t l++if e.2==t then [e.1] else []:=by
 unfold a2x;rw [List.filter_append,List.map_append]
 cases h:e.2==t<;>simp [List.filter,h]
theorem b4g (t:Bs) (l:Dic):(a2x t l).length≤l.length:=by
 unfold a2x;rw [List.length_map];exact List.length_filter_le _ _
theorem b3z {t:Bs} {d:Dic} (h:dic d=true):∀o∈a2x t d,a0l o=true:=by
 intro o ho;unfold a2x at ho;obtain⟨e,he,rfl⟩:=List.mem_map.1 ho;have h1:=(a5g h).2.1 e (List.mem_filter.1 he).1;unfold entry at h1;simp only [Bool.and_eq_true]at h1;exact h1.1
end P
theorem d3m {B B':Nat} {v:World} {u y:Value} {n:Nat} {xs:List Value} {l:List Int} (h1:v.ownsRow B 33 1 u n xs) (h2:OwnK B' v y l) (k:Nat) (hk:y.ownBlock=some k):u.ownBlock≠some k:=by
 intro hu
 rcases h1.2 with⟨rfl,_⟩|⟨g,cap,cur,rfl,_,hh,_⟩
 ·simp [Value.ownBlock]at hu
 rcases h2.2 with⟨rfl,_⟩|⟨g2,cap2,cur2,rfl,_,hh2,_⟩
 ·simp [Value.ownBlock]at hk
 simp [Value.ownBlock]at hu hk;subst hu;subst hk;rw [hh]at hh2;injection hh2 with hh2;injection hh2 with _ e2 _;exact absurd e2 dZ
structure RevI (w:World) (B:Nat) (u:Value) (its:List (Value×List Int)) (v:World):Prop where
 row:v.ownsRow B 33 1 u its.length (its.map (·.1))
 els:∀it∈its,OwnK B v it.1 it.2
 bel:Below w.heap.size w v
 lo:w.heap.size≤B∧B≤v.heap.size
theorem RevI.below {w:World} {B:Nat} {u:Value} {its:List (Value×List Int)} {v v':World} (h:RevI w B u its v) (hb:Below v.heap.size v v'):RevI w B u its v':=
 ⟨a0k h.row hb lZ,fun it hi=>a0k (h.els it hi) hb lZ,h.bel.trans (hb.mono h.bel.size),h.lo.1,Nat.le_trans h.lo.2 hb.size⟩
theorem RevI.form {w:World} {B:Nat} {u:Value} {its:List (Value×List Int)} {v:World} (h:RevI w B u its v):∃a c,u=.slice a its.length c:=by
 rcases h.row.2 with⟨rfl,h0⟩|⟨g,cap,cur,hv,_⟩
 ·exact⟨none,0,by rw [h0]⟩
 ·exact⟨_,cap,hv⟩
theorem RevI.app {w:World} {B:Nat} {u u' x:Value} {o:List Int} {its:List (Value×List Int)} {v z:World} {ob:Obj} (h:RevI w B u its v) (hx:OwnK B v x o)
 (hown:z.ownsRow B 33 1 u' (its.length+1) (its.map (·.1)++[x])) (hgr:(v.alloc ob).grownBy z u.ownBlock):RevI w B u' (its++[(x,o)]) z:=by
 have hba:=(Below.refl v.heap.size v).alloc lZ ob
 have h1:=h.below hba
 have hc:=a6o hgr
 refine⟨by rw [List.length_append,List.map_append];exact hown,fun it hi=>?_,?_,h.lo.1,Nat.le_trans h1.lo.2 hc.size⟩
 ·rcases List.mem_append.1 hi with hi|hi
  ·exact a0g (h1.els it hi) hc (d3m h1.row (h1.els it hi))
  ·rw [List.mem_singleton.1 hi];have hx1:=a0k hx hba lZ;exact a0g hx1 hc (d3m h1.row hx1)
 ·exact h1.bel.grown hgr h1.bel.size (fun k hk=>Nat.le_trans h.lo.1 (World.ownsRow.lt h1.row k hk).1)
theorem RevI.at {w:World} {B:Nat} {a:Option Addr} {n c:Nat} {its:List (Value×List Int)} {v:World} (h:RevI w B (.slice a n c) its v) (j:Nat) (hj:j<its.length):∃g,a=some ⟨g,0,none⟩∧B≤g∧g<v.heap.size∧v.cell? ⟨g,j,none⟩=some (its[j]'hj).1:=by
 rcases id h.row.2 with⟨_,h0⟩|⟨g,cap,cur,hv,hg,_⟩
 ·omega
 ·have hob:(Value.slice a n c).ownBlock=some g:=by rw [hv];rfl
  injection hv with e1 e2 e3;have hc:=World.ownsRow.cells h.row hob j (its[j]'hj).1 (by rw [List.getElem?_map,List.getElem?_eq_getElem hj];rfl);rw [add0]at hc;exact⟨g,e1,hg,(World.ownsRow.lt h.row g hob).2,hc⟩
theorem RevI.nil (w v:World) (hb:Below w.heap.size w v):RevI w v.heap.size (.slice (some ⟨v.heap.size,0,none⟩) 0 0) [] (v.alloc (.cells #[] 33)):=
 ⟨by have h:=World.ownsRow_lit (base:=v.heap.size) (e:=33) (size:=1) v #[] 0 lZ (Nat.zero_le _) sZ;simpa using h,by simp,hb.alloc hb.size _,hb.size,by simp⟩
def d5p (t:Str) (l:P.Dic) (w:World) (e:Ending) (w':World):Prop:=
 ∃u its B,e=.returned (.tuple #[u,.bool (P.dic l)])∧its.map (·.2)=(if P.dic l then P.a2x t l else [])∧RevI w B u its w'
theorem a9i (dv:Value) (l:P.Dic) (t:Str) (w:World) (hu:EntR w dv l) (hs:Small l) (hE:Env w) :
 Calls Tryz.prog 213 #[.agg #[dv],.string (S t)] w (d5p t l w):=by
 obtain⟨i0,hi,hz0,hz1,hz2⟩:=info_parts d4y
 have hb0:=(Below.refl w.heap.size w).alloc lZ (.cells #[dv] 26)
 have HU:=qh hu;have HB0:=qh hb0
 have HBX:=qh (Box1.new dv 26 w)
 have HE:=qh (hE.below hb0 hE.size)
 have HU0:=qh (hu.below hb0)
 obtain⟨ad,cap,rfl,hll,_⟩:=hu
 clear hb0
 go_enter Tryz.func213,Tryz.ntmps213
 go_wp2_with fail
 refine (a0v _ l _ HU0.o hs.texts HE.o).mono ?_
 rintro e w1 ⟨rfl,hb⟩
 have HBX1:=qh (HBX.o.below hb);have HB1:=bt HB0 hb
 clear hb HB0 HBX HE HU0
 cases hd:P.dic l
 ·have HD:=qh hd;clear hd;go_wp2;go_ret2;exact⟨.slice none 0 0,[],w.heap.size,by rw [HD.o];rfl,by rw [HD.o];rfl,World.ownsRow_nil _ _ _ _,by simp,HB1.o,Nat.le_refl _,HB1.o.size⟩
 ·have HD:=qh hd;have hl40:=P.b9y hd;clear hd;obtain⟨a0,az⟩:=HBX1.o;have HI0:=qh (RevI.nil w w1 HB1.o);have b0:(w1.alloc (.cells #[] 33)).cell? ⟨w.heap.size,0,none⟩=some (.slice ad l.length cap):=by go_simp
  clear HB1 HBX1;go_wp2
  go_loopw [6,16] (fun s i wr=>∃(j:Nat) (its:List (Value×List Int)),j≤l.length∧i=.int .i64 j∧its.map (·.2)=P.a2x t (l.take j)∧RevI w w1.heap.size s its wr) (fun _ i _=>l.length-(intOf i).toNat)
  case atStart=>exact⟨0,[],Nat.zero_le _,rfl,rfl,HI0.o⟩
  case round=>
   obtain⟨j,its,hj,rfl,hmap,hI⟩:=hrel;have HI:=qh hI;have HM:=qh hmap;obtain⟨ua,uc,rfl⟩:=hI.form;have hil:its.length≤40:=by have h1:=congrArg List.length hmap;rw [List.length_map]at h1;have h2:=P.b4g t (l.take j);rw [List.length_take]at h2;omega
   clear HI0 hmap hI
   by_cases hlt:j<l.length
   ·obtain⟨g,p,hga,hgs,x,c0,c1,hx⟩:=(HU.o.below HI.o.bel).at j hlt;subst hga;have HX:=qh hx;have HS:=qh (show P.a2x t (l.take (j+1))=P.a2x t (l.take j)++if l[j].2==t then [l[j].1] else [] by rw [a0h l j hlt,P.c0s]);have hol:l[j].1.length≤2^20:=hs.outs _ (List.getElem_mem hlt);generalize l[j]=en at *;obtain⟨eo,et⟩:=en;obtain⟨xd,xc,rfl,_,_⟩:=hx;simp only at HX HS c1 hol;have i1:(j:Int)<(l.length:Int):=by omega
    have hba:=(Below.refl wr.heap.size wr).alloc lZ (.cells #[.slice xd eo.length xc,.string (S et)] 119);have HI2:=qh (HI.o.below hba);have HX2:=qh (HX.o.below hba);have HZ2:=qh (HI.o.bel.size);clear hba HI HX
    cases hq:et==t
    ·have HS2:=qh (HS.o.trans (by rw [hq];simp:_=P.a2x t (l.take j)));clear HS;go_wp2
     go_roundw
     case rel=>exact⟨j+1,its,by omega,by go_num,by rw [HS2.o];exact HM.o,HI2.o⟩
     case measure=>simp [intOf];omega
    ·have HS2:=qh (HS.o.trans (by rw [hq];rfl:_=P.a2x t (l.take j)++[eo]));clear HS
     go_wp2_with fail
     refine (a7n _ eo _ HX2.o oZ).mono ?_;rintro e v1 ⟨y,rfl,hy,hb⟩;have HI3:=qh (HI2.o.below hb);have HY:=qh (show OwnK w1.heap.size v1 y eo from a1n hy HI2.o.lo.2);have HZ3:=qh HI3.o.lo.2;have HOA:=qh (show (v1.alloc (.cells #[y] 33)).ownsRow w1.heap.size 33 1 (.slice ua its.length uc) its.length (its.map (·.1)) from World.ownsRow.alloc HI3.o.row _);obtain⟨ya,yc,rfl⟩:=a0j HY.o;clear hb hy
     go_wp2_with (at_builtin;refine wpList_append_own _ rfl _ _ 215 rfl w1.heap.size 33 i0 (.slice none 0 0) 1 24 Tryz.underlying215 hi hz0 hz1 hz2 rfl dZ (.slice ua its.length uc) its.length (its.map (·.1)) rfl HOA.o ⟨v1.heap.size,0,none⟩ 1 1 [.slice ya eo.length yc] rfl rfl ?_ ?_ ?_ ?_ ?_ ?_)
     all_goals first|exact⟨rfl,rfl⟩|(intro z hz;simp only [List.mem_cons,List.not_mem_nil,or_false]at hz;subst hz;rfl)|(unfold maxLen;omega)|omega|(have h1:=HZ3.o;simp;omega)|(intro i z hz;rcases i with _|i;(injection hz with hz;subst hz;rw [add0];go_simp);cases hz)|skip
     intro u4 w4 hown hgr _;have HFIN:=qh (HI3.o.app HY.o hown hgr);clear hown hgr;go_wp2
     go_roundw
     case rel=>exact⟨j+1,its++[(.slice ya eo.length yc,eo)],by omega,by go_num,by rw [HS2.o,List.map_append,HM.o];rfl,HFIN.o⟩
     case measure=>simp [intOf];omega
   ·have hjl:j=l.length:=by omega
    subst hjl;have HM2:=qh (show its.map (·.2)=P.a2x t l by rw [HM.o,List.take_length]);go_wp2;go_ret2;exact⟨_,its,_,by rw [HD.o];rfl,by rw [HD.o];exact HM2.o,HI.o⟩
end Go.Proofs.YtggfdnopminemaaGreatDoor
