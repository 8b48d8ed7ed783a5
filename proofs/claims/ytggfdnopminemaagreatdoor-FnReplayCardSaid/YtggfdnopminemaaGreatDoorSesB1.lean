/- Walks: the outlines of. -/
import Derived.Test.YtggfdnopminemaaGreatDoorSesF2
set_option linter.all false
namespace Go.Proofs.YtggfdnopminemaaGreatDoor
open Go.Proofs.Tryz
variable {l:List Str} {B B' n:Nat} {ob:Go.Obj} {u y:Go.Value} {v w z:Go.World}
namespace P
theorem b7z (t:Bs) (l:Dic) (e:Ent):a2e t (l++[e])=a2e t l++if e.2==t then [e.1] else []:=by
 unfold a2e;rw [List.filter_append,List.map_append]
 cases h:e.2==t<;>simp [List.filter,h]
theorem a9w (t:Bs) (l:Dic):(a2e t l).length<=l.length:=by
 unfold a2e;rw [List.length_map];exact List.length_filter_le _ _
theorem b0x {t:Bs} {d:Dic} (h:dic d=true):∀o∈a2e t d,a0k o=true:=by
 intro o ho;unfold a2e at ho;obtain⟨e,he,rfl⟩:=List.mem_map.1 ho;have h1:=(a4d h).2.1 e (List.mem_filter.1 he).1;unfold entry at h1;simp only [Bool.and_eq_true]at h1;exact h1.1
end P
open Go Go.RowKit
set_option maxHeartbeats 8000000
set_option maxRecDepth 100000
theorem e1s {xs:List Value} {l:List Int} (h1:v.ownsRow B 33 1 u n xs) (h2:OwnK B' v y l) (k:Nat) (hk:y.ownBlock=some k):u.ownBlock≠some k:=by
 intro hu
 rcases h1.2 with⟨rfl,_⟩|⟨g,cap,cur,rfl,_,hh,_⟩
 .simp [Value.ownBlock]at hu
 rcases h2.2 with⟨rfl,_⟩|⟨g2,cap2,cur2,rfl,_,hh2,_⟩
 .simp [Value.ownBlock]at hk
 simp [Value.ownBlock]at hu hk;subst hu;subst hk;rw [hh]at hh2;injection hh2 with hh2;injection hh2 with _ e2 _;exact absurd e2 dZ
structure RevI (w:World) (B:Nat) (u:Value) (its:List (Value×List Int)) (v:World):Prop where
 row:v.ownsRow B 33 1 u its.length (its.map (·.1))
 els:∀it∈its,OwnK B v it.1 it.2
 bel:Bl w v
 lo:w.heap.size<=B/\B<=v.heap.size
theorem RevI.below {its:List (Value×List Int)} {v':World} (h:RevI w B u its v) (hb:Bl v v'):RevI w B u its v':=
 ⟨a0i h.row hb lZ,λit hi=>a0i (h.els it hi) hb lZ,h.bel.trans (hb.mono h.bel.size),h.lo.1,Nat.le_trans h.lo.2 hb.size⟩
theorem RevI.form {its:List (Value×List Int)} (h:RevI w B u its v):∃a c,u=.slice a its.length c:=by
 rcases h.row.2 with⟨rfl,h0⟩|⟨g,cap,cur,hv,_⟩
 .exact⟨none,0,by rw [h0]⟩
 .exact⟨_,cap,hv⟩
theorem RevI.app {u' x:Value} {o:List Int} {its:List (Value×List Int)} (h:RevI w B u its v) (hx:OwnK B v x o)
 (hown:z.ownsRow B 33 1 u' (its.length+1) (its.map (·.1)++[x])) (hgr:(v.alloc ob).grownBy z u.ownBlock):RevI w B u' (its++[(x,o)]) z:=by
 have hba:=(Below.refl v.heap.size v).alloc lZ ob
 have h1:=h.below hba
 have hc:=a6x hgr
 refine⟨by rw [List.length_append,List.map_append];exact hown,λit hi=>?_,?_,h.lo.1,Nat.le_trans h1.lo.2 hc.size⟩
 .rcases List.mem_append.1 hi with hi|hi
  .exact a1f (h1.els it hi) hc (e1s h1.row (h1.els it hi))
  .rw [List.mem_singleton.1 hi];have hx1:=a0i hx hba lZ;exact a1f hx1 hc (e1s h1.row hx1)
 .exact h1.bel.grown hgr h1.bel.size (λk hk=>Nat.le_trans h.lo.1 (World.ownsRow.lt h1.row k hk).1)
theorem RevI.at {a:Option Addr} {c:Nat} {its:List (Value×List Int)} (h:RevI w B (.slice a n c) its v) (j:Nat) (hj:j<its.length):∃g,a=some ⟨g,0,none⟩/\B<=g/\g<v.heap.size/\v.cell? ⟨g,j,none⟩=some (its[j]'hj).1:=by
 rcases id h.row.2 with⟨_,h0⟩|⟨g,cap,cur,hv,hg,_⟩
 .omega
 .have hob:(Value.slice a n c).ownBlock=some g:=by rw [hv];rfl
  injection hv with e1 e2 e3;have hc:=World.ownsRow.cells h.row hob j (its[j]'hj).1 (by rw [List.getElem?_map,List.getElem?_eq_getElem hj];rfl);rw [add0]at hc;exact⟨g,e1,hg,(World.ownsRow.lt h.row g hob).2,hc⟩
theorem RevI.nil (w v:World) (hb:Bl w v):RevI w v.heap.size (.slice (some ⟨v.heap.size,0,none⟩) 0 0) [] (v.alloc (.cells #[] 33)):=
 ⟨by have h:=World.ownsRow_lit (base:=v.heap.size) (e:=33) (size:=1) v #[] 0 lZ (Nat.zero_le _) sZ;simpa using h,by simp,hb.alloc hb.size _,hb.size,by simp⟩
def d6y (t:Str) (l:P.Dic) (w:World) (e:Ending) (w':World):Prop:=
 ∃u its B,e=.returned (.tuple #[u,.bool (P.dic l)])/\its.map (·.2)=(if P.dic l then P.a2e t l else [])/\RevI w B u its w'
theorem b1y (dv:Value) (l:P.Dic) (t:Str) (w:World) (hu:EntR w dv l) (hs:Small l) (hE:Env w) :
 Cz 213 #[.agg #[dv],.string (S t)] w (d6y t l w):=by
 obtain⟨i0,hi,hz0,hz1,hz2⟩:=info_parts d3n;refine zm53 ?_;intro hb0;have HU:=qh hu;have HB0:=qh hb0;have HBX:=qh (Box1.new dv 26 w);have HE:=qh (hE.below hb0 hE.size);have HU0:=qh (hu.below hb0);obtain⟨ad,cap,rfl,hll,_⟩:=hu;clear hb0;go_enter func213,ntmps213;go_wp2_with fail;refine (a1e _ l _ HU0.o hs.texts HE.o).mono ?_;rintro e w1 ⟨rfl,hb⟩;have HBX1:=qh (HBX.o.below hb);have HB1:=bt HB0 hb;clear hb HB0 HBX HE HU0
 cases hd:P.dic l
 .have HD:=qh hd;clear hd;go_wp2;go_ret2;exact⟨.slice none 0 0,[],w.heap.size,by rw [HD.o];rfl,by rw [HD.o];rfl,World.ownsRow_nil _ _ _ _,by simp,HB1.o,Nat.le_refl _,HB1.o.size⟩
 .have HD:=qh hd;have hl40:=P.b7b hd;clear hd;obtain⟨a0,az⟩:=HBX1.o;have HI0:=qh (RevI.nil w w1 HB1.o);have b0:(w1.alloc (.cells #[] 33)).cell? ⟨w.heap.size,0,none⟩=some (.slice ad l.length cap):=by go_simp
  clear HB1 HBX1;go_wp2
  go_loopw [6,16] (λs i wr=>∃(j:Nat) (its:List (Value×List Int)),j<=l.length/\i=.int .i64 j/\its.map (·.2)=P.a2e t (l.take j)/\RevI w w1.heap.size s its wr) (λ_ i _=>l.length-(intOf i).toNat)
  case atStart=>exact⟨0,[],Nat.zero_le _,rfl,rfl,HI0.o⟩
  case round=>
   obtain⟨j,its,hj,rfl,hmap,hI⟩:=hrel;have HI:=qh hI;have HM:=qh hmap;obtain⟨ua,uc,rfl⟩:=hI.form;have hil:its.length<=40:=by have h1:=congrArg List.length hmap;rw [List.length_map]at h1;have h2:=P.a9w t (l.take j);rw [List.length_take]at h2;omega
   clear HI0 hmap hI
   by_cases hlt:j<l.length
   .obtain⟨g,p,hga,hgs,x,c0,c1,hx⟩:=(HU.o.below HI.o.bel).at j hlt;subst hga;refine zm86 ?_;intro HX HS hol;generalize l[j]=en at *;obtain⟨eo,et⟩:=en;obtain⟨xd,xc,rfl,_,_⟩:=hx;simp only at HX HS c1 hol;have i1:(j:Int)<(l.length:Int):=by omega
    have hba:=(Below.refl wr.heap.size wr).alloc lZ (.cells #[.slice xd eo.length xc,.string (S et)] 119);have HI2:=qh (HI.o.below hba);have HX2:=qh (HX.o.below hba);have HZ2:=qh (HI.o.bel.size);clear hba HI HX
    cases hq:et==t
    .have HS2:=qh (HS.o.trans (by rw [hq];simp:_=P.a2e t (l.take j)));clear HS;go_wp2
     go_roundw
     case rel=>exact⟨j+1,its,by omega,by go_num,by rw [HS2.o];exact HM.o,HI2.o⟩
     case measure=>exact zq
    .have HS2:=qh (HS.o.trans (by rw [hq];rfl:_=P.a2e t (l.take j)++[eo]));clear HS
     go_wp2_with fail
     refine (a9y _ eo _ HX2.o oZ).mono ?_;rintro e v1 ⟨y,rfl,hy,hb⟩;have HI3:=qh (HI2.o.below hb);have HY:Hq (OwnK w1.heap.size v1 y eo):=⟨a2g hy HI2.o.lo.2⟩;have HZ3:=qh HI3.o.lo.2;have HOA:Hq ((v1.alloc (.cells #[y] 33)).ownsRow w1.heap.size 33 1 (.slice ua its.length uc) its.length (its.map (·.1))):=⟨World.ownsRow.alloc HI3.o.row _⟩;obtain⟨ya,yc,rfl⟩:=a0h HY.o;clear hb hy
     go_wp2_with (at_builtin;refine wpList_append_own _ rfl _ _ 215 rfl w1.heap.size 33 i0 (.slice none 0 0) 1 24 underlying215 hi hz0 hz1 hz2 rfl dZ (.slice ua its.length uc) its.length (its.map (·.1)) rfl HOA.o ⟨v1.heap.size,0,none⟩ 1 1 [.slice ya eo.length yc] rfl rfl ?_ ?_ ?_ ?_ ?_ ?_)
     all_goals first|exact⟨rfl,rfl⟩|(intro z hz;simp only [List.mem_cons,List.not_mem_nil,or_false]at hz;subst hz;rfl)|(unfold maxLen;omega)|omega|(have h1:=HZ3.o;simp;omega)|(intro i z hz;rcases i with _|i;(injection hz with hz;subst hz;rw [add0];go_simp);cases hz)|skip
     intro u4 w4 hown hgr _;have HFIN:=qh (HI3.o.app HY.o hown hgr);clear hown hgr;go_wp2
     go_roundw
     case rel=>exact⟨j+1,its++[(.slice ya eo.length yc,eo)],by omega,by go_num,by rw [HS2.o,List.map_append,HM.o];rfl,HFIN.o⟩
     case measure=>exact zq
   .exact zq119
theorem b3d (dv:Value) (l:P.Dic) (t:Str) (w:World) (hu:EntR w dv l) (hs:Small l) :
 Cz 241 #[.agg #[dv],.string (S t)] w (d6y t l w):=by
 obtain⟨i0,hi,hz0,hz1,hz2⟩:=info_parts d3n;refine zm53 ?_;intro hb0;have HU:=qh hu;have HB0:=qh hb0;have HBX:=qh (Box1.new dv 26 w);have hb1:=hb0.alloc sZ (.cells #[] 33);have HU1:=qh (hu.below hb1);obtain⟨ad,cap,rfl,hll,_⟩:=hu;have HI00:Hq (RevI w (w.heap.size+1) (.slice (some ⟨w.heap.size+1,0,none⟩) 0 0) [] ((w.alloc (.cells #[.slice ad l.length cap] 26)).alloc (.cells #[] 33))):=⟨by have h:=RevI.nil w (w.alloc (.cells #[.slice ad l.length cap] 26)) HB0.o;simpa using h⟩;have HBX0:=qh (HBX.o.below (bZ.alloc lZ (.cells #[] 33)));clear hb0 hb1 HBX HB0;go_enter func241,ntmps241;go_upto_region 2 with fail;generalize (w.alloc (.cells #[.slice ad l.length cap] 26)).alloc (.cells #[] 33)=v0 at *;obtain⟨b00,bz0⟩:=HBX0.o;go_wp2_with fail;refine (b7x _ l _ HU1.o hs.texts).mono ?_;rintro e w1 ⟨rfl,hb⟩;have HBX1:=qh (HBX0.o.below hb);have HI0:=qh (HI00.o.below hb);clear hb HBX0 HU1 HI00 b00 bz0
 cases hd:P.dic l
 .have HD:=qh hd;clear hd;go_wp2;go_ret2;exact⟨_,[],_,by rw [HD.o];rfl,by rw [HD.o];rfl,HI0.o⟩
 .have HD:=qh hd;have hl40:=P.b7b hd;clear hd;go_wp2
  go_loopw [6,7] (λs i wr=>∃(j:Nat) (its:List (Value×List Int)),j<=l.length/\i=.int .i64 j/\its.map (·.2)=P.a2e t (l.take j)/\RevI w (w.heap.size+1) s its wr/\Box1 w.heap.size (.slice ad l.length cap) wr) (λ_ i _=>l.length-(intOf i).toNat)
  case atStart=>exact⟨0,[],Nat.zero_le _,rfl,rfl,HI0.o,HBX1.o⟩
  case round=>
   obtain⟨j,its,hj,rfl,hmap,hI,hbx⟩:=hrel;have HI:=qh hI;have HM:=qh hmap;have HBX:=qh hbx;obtain⟨b0,bz⟩:=hbx;obtain⟨ua,uc,rfl⟩:=hI.form;have hil:its.length<=40:=by have h1:=congrArg List.length hmap;rw [List.length_map]at h1;have h2:=P.a9w t (l.take j);rw [List.length_take]at h2;omega
   clear HI0 HBX1 hmap hI
   by_cases hlt:j<l.length
   .obtain⟨g,p,hga,hgs,x,c0,c1,hx⟩:=(HU.o.below HI.o.bel).at j hlt;subst hga;refine zm86 ?_;intro HX HS hol;generalize l[j]=en at *;obtain⟨eo,et⟩:=en;obtain⟨xd,xc,rfl,_,_⟩:=hx;simp only at HX HS c1 hol;have i1:(j:Int)<(l.length:Int):=by omega
    cases hq:et==t
    .have HS2:=qh (HS.o.trans (by rw [hq];simp:_=P.a2e t (l.take j)));clear HS;go_wp2
     go_roundw
     case rel=>exact⟨j+1,its,by omega,by go_num,by rw [HS2.o];exact HM.o,HI.o,HBX.o⟩
     case measure=>exact zq
    .have HS2:=qh (HS.o.trans (by rw [hq];rfl:_=P.a2e t (l.take j)++[eo]));clear HS
     go_wp2_with fail
     refine (c9v _ eo _ HX.o oZ).mono ?_;rintro e v1 ⟨y,rfl,hy,hb⟩;have HI3:=qh (HI.o.below hb);have HY:Hq (OwnK (w.heap.size+1) v1 y eo):=⟨a2g hy HI.o.lo.2⟩;have HZ3:=qh HI3.o.lo.2;have HOA:Hq ((v1.alloc (.cells #[y] 33)).ownsRow (w.heap.size+1) 33 1 (.slice ua its.length uc) its.length (its.map (·.1))):=⟨World.ownsRow.alloc HI3.o.row _⟩;obtain⟨ya,yc,rfl⟩:=a0h HY.o;have HBB:=qh hb;have hzz:=HI3.o.bel.size;clear hb hy b0 bz
     go_wp2_with (at_builtin;refine wpList_append_own _ rfl _ _ 215 rfl (w.heap.size+1) 33 i0 (.slice none 0 0) 1 24 underlying215 hi hz0 hz1 hz2 rfl dZ (.slice ua its.length uc) its.length (its.map (·.1)) rfl HOA.o ⟨v1.heap.size,0,none⟩ 1 1 [.slice ya eo.length yc] rfl rfl ?_ ?_ ?_ ?_ ?_ ?_)
     all_goals first|exact⟨rfl,rfl⟩|(intro z hz;simp only [List.mem_cons,List.not_mem_nil,or_false]at hz;subst hz;rfl)|(unfold maxLen;omega)|omega|(have h1:=HZ3.o;simp;omega)|(intro i z hz;rcases i with _|i;(injection hz with hz;subst hz;rw [add0];go_simp);cases hz)|skip
     intro u4 w4 hown hgr _;have HFIN:=qh (HI3.o.app HY.o hown hgr);have HBX4:=qh (((HBX.o.below HBB.o).below (bZ.alloc lZ (.cells #[.slice ya eo.length yc] 33))).a0b (a6x hgr) (λh=>by have h1:=(World.ownsRow.lt HOA.o _ h).1;omega));clear hown hgr;go_wp2
     go_roundw
     case rel=>exact⟨j+1,its++[(.slice ya eo.length yc,eo)],by omega,by go_num,by rw [HS2.o,List.map_append,HM.o];rfl,HFIN.o,HBX4.o⟩
     case measure=>exact zq
   .exact zq119
namespace P
theorem c2e (s:Bs):Go.Lib.replaceAll s [35] [61]=s.map hash:=by
 rw [b8k dZ];rfl
theorem c1u (l:List Bs):(Go.Lib.join l [32]).map hash=Go.Lib.join (l.map λx=>x.map hash) [32]:=by
 cases l with
 |nil=>rfl
 |cons x r=>
  rw [List.map_cons,Go.Lib.join_cons,Go.Lib.join_cons,List.map_append]
  congr 1
  induction r with
  |nil=>rfl
  |cons y r ih=>
   unfold Go.Lib.joinTail at ih⊢;simp only [List.map_cons,List.flatten_cons,List.map_append];rw [ih];rfl
def a7l (t:Bs) (d:Dic):List Bs:=(a2e t d).map λo=>(fmtS 47 o).map hash
theorem d5h (d:Dic) (t:Bs):revT d t=if a2e t d=[] then wNone else Go.Lib.join (a7l t d) [32]:=rfl
theorem c4q {o:List Int} (h:a0k o=true):((fmtS 47 o).map hash).length<=282:=by
 have h1:=a5h 47 o;have h2:=(a1k h).2;rw [List.length_map];omega
theorem d2s {l:List (List Int)} (h:∀o∈l,a0k o=true) (hl:l.length<=40):(Go.Lib.join (l.map λo=>(fmtS 47 o).map hash) [32]).length<=12000:=by
 have h1:=c0r (l.map λo=>(fmtS 47 o).map hash) 32 282 (λx hx=>by obtain⟨o,ho,rfl⟩:=List.mem_map.1 hx;exact c4q (h o ho));rw [List.length_map]at h1;have:l.length*(282+1)<=40*283:=Nat.mul_le_mul_right _ hl;omega
end P
theorem c4e (x:Str) (w:World) (hE:Env w) (hl:x.length<=2^20) :
 Cz 107 #[.string (S x),.string (S [35]),.string (S [61])] w λe w'=>e=.returned (.string (S (x.map P.hash)))/\Bl w w':=by
 obtain⟨n,hm⟩:=hE.2
 have hc:=Lib.countB_mul_le (S [35]) dZ (S x).size (S x) lZ
 have hc2:Lib.countB (S x) (S [35])<=x.length:=by rw [S_size,S_size]at hc;simpa using hc
 refine (Tryz.strings_ReplaceAll (S x) (S [35]) (S [61]) n w (by rw [S_size];omega) hm dZ (by rw [S_size,S_size];simp;omega)).mono ?_
 rintro e w' ⟨rfl,hb⟩
 rw [S_dataList,S_dataList,S_dataList,P.c2e]
 exact⟨rfl,hb⟩
theorem e3y {xs:List Value} (h1:v.ownsRow B 33 1 u n xs) (h2:a0x B' v y l) (k:Nat) (hk:u.ownBlock=some k):y.ownBlock≠some k:=by
 exact zq91
theorem d8z {l:List Int} {m:List Str} (h1:OwnK B v u l) (h2:a0x B' v y m) (k:Nat) (hk:u.ownBlock=some k):y.ownBlock≠some k:=by
 exact zq91
theorem RevI.grown {its:List (Value×List Int)} (h:RevI w B u its v) (hy:a0x B' v y l) (hw:w.heap.size<=B') (hgr:(v.alloc ob).grownBy z y.ownBlock):RevI w B u its z:=by
 have hba:=(Below.refl v.heap.size v).alloc lZ ob;have h1:=h.below hba;have hy1:=a0i hy hba lZ;have hc:=a6x hgr;exact⟨a1f h1.row hc (e3y h1.row hy1),λit hi=>a1f (h1.els it hi) hc (d8z (h1.els it hi) hy1),h1.bel.grown hgr h1.bel.size (λk hk=>Nat.le_trans hw (World.ownsRow.lt hy1 k hk).1),h.lo.1,Nat.le_trans h1.lo.2 hc.size⟩
theorem d9w {v:Value} (h:a0x B w v l):∃a cap,v=.slice a l.length cap:=by
 exact zq59
theorem c0x (lo B:Nat) (l:P.Dic) (st:List Int) (sc d p:Str) (n:Int) (t:Str) (w:World) (h:SesM lo B (l,(st,sc)) (d,p,n) w) (hm:Small l) (hdc:P.dic l=true) (htl:t.length<=2^20) (hE:L.Env w) :
 Cz 142 #[.pointer (some ⟨B,0,none⟩),.string (S t)] w (a5v lo B ((l,(st,sc)),P.a4r l t) (d,p,n) w):=by
 obtain⟨i0,hi,hz0,hz1,hz2⟩:=info_parts L.b2f
 have HSM:=qh h
 obtain⟨hEB,hlo,u,us,hS,hR⟩:=h
 have hBz:B<w.heap.size:=hS.1.2.2.2.2.2.2
 have hu:=hR.dic
 simp only at hS hR hu
 obtain⟨ad,cap,rfl,_,_⟩:=id hu
 have HU:=qh hu;have HE:=qh hE;have HDC:=qh hdc
 have HREV:Hq (P.a4r l t=if (P.a0o t).2 then some (P.revT l t) else none):=⟨rfl⟩
 have HOO:=qh (P.b0x (t:=t) hdc)
 have hl40:=Nat.le_trans (P.a9w t l) (P.b7b hdc)
 have HRT:=qh (P.d5h l t)
 obtain⟨⟨o0,o1,o2,o3,o4,o5,o6⟩,_⟩:=hS
 clear hu hE hdc hR
 go_enter func142,ntmps142
 go_wp2_with fail
 refine (b1y _ l t _ HU.o hm HE.o.dic).mono ?_
 rintro e w1 ⟨x,its,B1,rfl,hmap,hI⟩
 rw [HDC.o,if_pos rfl]at hmap
 rw [HDC.o]
 have HI:=qh hI
 obtain⟨xa,xc,rfl⟩:=hI.form
 have HM:Hq (its.map (·.2)=P.a2e t l):=⟨hmap⟩
 have hil:its.length<=40:=by have h1:=congrArg List.length hmap;rw [List.length_map]at h1;omega
 have HOI:Hq (∀it∈its,P.a0k it.2=true):=⟨λit hi=>HOO.o it.2 (by rw [<-hmap];exact List.mem_map_of_mem hi)⟩
 have HOW:Hq (a0x w1.heap.size (w1.alloc (.cells #[] 9)) (.slice (some ⟨w1.heap.size,0,none⟩) 0 0) []):=⟨by have h:=World.ownsRow_lit (base:=w1.heap.size) (e:=9) (size:=1) w1 #[] 0 lZ (Nat.zero_le _) sZ;simpa [a0x,a3z] using h⟩
 have HI1:=qh (hI.below ((Below.refl w1.heap.size w1).alloc lZ (.cells #[] 9)))
 have hzw:=hI.bel.size
 clear hmap hI o0 o1 o2 o3 o4 o5 o6 HI
 go_wp2
 go_loopw [8,23] (λv i wr=>∃k:Nat,k<=its.length/\i=.int .i64 k/\(∃ws:List Str,ws=(its.take k).map (λit=>(P.fmtS 47 it.2).map P.hash)/\a0x w1.heap.size wr v ws)/\RevI w B1 (.slice xa its.length xc) its wr/\w1.heap.size<=wr.heap.size) (λ_ i _=>its.length-(intOf i).toNat)
 case atStart=>exact⟨0,Nat.zero_le _,rfl,⟨_,rfl,HOW.o⟩,HI1.o,by simp⟩
 case round=>
  obtain⟨k,hk,rfl,⟨ws,hws,hown⟩,hI,hzr⟩:=hrel;have HOWN:=qh hown;have HI:=qh hI;have HWS:=qh hws;have hwl:ws.length<=40:=by rw [hws,List.length_map,List.length_take];omega
  clear hown hws HOW HI1
  by_cases hlt:k<its.length
  .obtain⟨g,hga,hgB,hgl,c0⟩:=hI.at k hlt;subst hga;have i1:(k:Int)<(its.length:Int):=by omega
   have hok:=hI.els its[k] (List.getElem_mem hlt);have hol:=HOI.o its[k] (List.getElem_mem hlt);have HSN:Hq (ws++[(P.fmtS 47 its[k].2).map P.hash]=(its.take (k+1)).map (λit=>(P.fmtS 47 it.2).map P.hash)):=⟨by rw [HWS.o,a0g its k hlt,List.map_append];rfl⟩;generalize its[k]=it at *;obtain⟨y,o⟩:=it;simp only at hok hol c0 HSN;have h6:=(P.a1k hol).2;have hwd:=P.c4q hol;have hfs:=P.a5h 47 o;obtain⟨ya,yc,rfl⟩:=a0h hok;have HK:=qh (a2j hok oZ);have HSL:=qh (P.b3h hol);have HEW:=qh (HE.o.below hI.bel HE.o.size);clear hok hol hI
   go_wp2_with fail
   refine (d2v _ o _ HK.o HSL.o).mono ?_;rintro e w2 ⟨rfl,hb⟩;have HO2:=qh (a0i HOWN.o hb lZ);have HI2:=qh (HI.o.below hb);have HE2:=qh (HEW.o.below hb HEW.o.size);have hy2:w1.heap.size<=w2.heap.size:=Nat.le_trans hzr hb.size;clear hb c0 HEW HI HOWN
   go_wp2_with fail
   refine (c4e (P.fmtS 47 o) _ HE2.o.dic oZ).mono ?_;rintro e w3 ⟨rfl,hb⟩;have HO3:=qh (a0i HO2.o hb lZ);have HI3:=qh (HI2.o.below hb);have hy3:w1.heap.size<=w3.heap.size:=Nat.le_trans hy2 hb.size;clear hb HO2 HI2;generalize (P.fmtS 47 o).map P.hash=nw at *;have HOA:Hq ((w3.alloc (.cells #[.string (S nw)] 9)).ownsRow w1.heap.size 9 1 _ ws.length (a3z ws)):=⟨World.ownsRow.alloc HO3.o _⟩
   go_wp2_with (at_builtin;refine wpList_append_own _ rfl _ _ 43 rfl w1.heap.size 9 i0 (.string ⟨#[]⟩) 1 16 underlying43 hi hz0 hz1 hz2 rfl dZ _ _ _ rfl HOA.o ⟨w3.heap.size,0,none⟩ 1 1 [.string (S nw)] rfl rfl ?c1 ?c2 ?c3 ?c4 ?c5 ?_)
   case c1=>intro j u hj;match j,hj with|0,hj=>(simp at hj;subst hj;simp [Addr.add])
   case c2=>intro u hu;simp at hu;subst hu;rfl
   case c3=>unfold maxLen;omega
   case c4=>omega
   case c5=>simp;omega
   intro v' w4 hown' hgrow _;have HO4:=qh (L.a0x.snoc hown');have HI4:=qh (HI3.o.grown HO3.o oZ hgrow);have hy4:w1.heap.size<=w4.heap.size:=Nat.le_trans (by simp;omega) (a6x hgrow).size;clear hown' hgrow HOA;go_wp2
   go_roundw
   case rel=>exact⟨k+1,by omega,by go_num,⟨_,HSN.o,HO4.o⟩,HI4.o,hy4⟩
   case measure=>exact zq
  .have hkl:k=its.length:=by omega
   subst hkl;have HWW:Hq (ws=P.a7l t l):=⟨by rw [HWS.o,List.take_length];unfold P.a7l;rw [<-HM.o,List.map_map];rfl⟩;have HJL:Hq ((Lib.join (P.a7l t l) [32]).length<=12000):=⟨P.d2s HOO.o hl40⟩;have HEW:=qh (HE.o.below HI.o.bel HE.o.size);have HB0:=qh HI.o.bel;have HLN:Hq (its.length=(P.a2e t l).length):=⟨by rw [<-HM.o,List.length_map]⟩;have HWL:Hq (ws.length=its.length):=⟨by rw [HWS.o,List.length_map,List.take_length]⟩;clear hI HWS;obtain⟨va,vc,rfl⟩:=d9w HOWN.o;have hwe:ws.length=its.length:=HWL.o
   by_cases h0:its.length=0
   .have hnil:ws=[]:=List.eq_nil_of_length_eq_zero oZ;have HRN:Hq (P.revT l t=[110,111,110,101]):=⟨by rw [HRT.o,if_pos (List.eq_nil_of_length_eq_zero (by rw [<-HLN.o];exact h0))];rfl⟩;have HLIT:Hq (a0x wr.heap.size (wr.alloc (.cells #[.string (S [110,111,110,101])] 9)) (.slice (some ⟨wr.heap.size,0,none⟩) 1 1) [[110,111,110,101]]):=⟨by have h:=World.ownsRow_lit (base:=wr.heap.size) (e:=9) (size:=1) wr #[.string (S [110,111,110,101])] 1 lZ (by unfold maxLen;omega) sZ;simpa [a0x,a3z] using h⟩;have hba:=(Below.refl wr.heap.size wr).alloc lZ (.cells #[.string (S [110,111,110,101])] 9);have HB1:=bt HB0 hba;have HE1:=qh (HEW.o.below hba HEW.o.size);subst hnil;have f0:((([]:List Str).length:Int)==0)=true:=rfl;clear hba hwe;rw [h0]at *
    go_wp2_with fail
    refine (c0p wr.heap.size _ [[110,111,110,101]] 32 _ HLIT.o sZ dZ).mono ?_;rintro e w2 ⟨rfl,hb⟩;have HB2:=bt HB1 hb;have HE2:=qh (HE1.o.below hb HE1.o.size);clear hb
    go_wp2_with fail
    refine (a7m t _ oZ HE2.o.dic).mono ?_;rintro e w3 ⟨rfl,hb⟩;have HB3:=bt HB2 hb;clear hb;obtain⟨q,hq⟩:∃q,(P.a0o t).2=q:=⟨_,rfl⟩;rw [hq]at HREV⊢;clear hq;go_wp2;go_ret2;exact⟨[110,111,110,101],q,rfl,by show _=P.a4r l t;rw [HREV.o,HRN.o];cases q<;>rfl,HSM.o.below HB3.o,Below.chg HB3.o _⟩
   .have f0:((its.length:Int)==0)=false:=by rw [beq_eq_false_iff_ne];omega
    have HRN:Hq (P.revT l t=Lib.join (P.a7l t l) [32]):=⟨by rw [HRT.o,if_neg (λh=>h0 (by rw [HLN.o,h];rfl))]⟩;have hwle:ws.length<=2^20:=by omega
    have HJW:Hq ((Lib.join ws [32]).length<=2^30):=⟨Nat.le_trans (by rw [HWW.o];exact HJL.o) dZ⟩;have f1:((ws.length:Int)==0)=false:=by rw [beq_eq_false_iff_ne];omega
    clear hwe f0
    go_wp2_with fail
    refine (c0p w1.heap.size _ ws 32 _ HOWN.o hwle HJW.o).mono ?_;rintro e w2 ⟨rfl,hb⟩;have HB2:=bt HB0 hb;have HE2:=qh (HEW.o.below hb HEW.o.size);clear hb
    go_wp2_with fail
    refine (a7m t _ oZ HE2.o.dic).mono ?_;rintro e w3 ⟨rfl,hb⟩;have HB3:=bt HB2 hb;clear hb;obtain⟨q,hq⟩:∃q,(P.a0o t).2=q:=⟨_,rfl⟩;rw [hq]at HREV⊢;clear hq;go_wp2;go_ret2;exact⟨Lib.join ws [32],q,rfl,by show _=P.a4r l t;rw [HREV.o,HRN.o,HWW.o];cases q<;>rfl,HSM.o.below HB3.o,Below.chg HB3.o _⟩
namespace P
theorem b9a {s:Ses} {word more:Bs} (h:a1u more=none):a6b s word more=(s,none):=by unfold a6b;rw [h]
theorem b9o {s:Ses} {word more:Bs} {o:List Int} (h:a1u more=some o):a6b s word more=outl s word o:=by unfold a6b;rw [h]
theorem beqB {a b:Bs} (h:a=b):(a==b)=true:=by rw [h];simp
theorem beqN {a b:Bs} (h:a≠b):(a==b)=false:=by simpa using h
end P
theorem a5v.after {lo:Nat} {a:P.Ans} {g:P.LogT} {w1:World} {e:Ending} (h:a5v lo B a g w1 e v) (hb:Bl w w1):a5v lo B a g w e v:=by
 obtain⟨x,ok,h1,h2,h3,h4⟩:=h;exact⟨x,ok,h1,h2,h3,(Below.chg hb _).trans h4⟩
theorem c1j (k:Int) (w:World):IntR (w.alloc (.cells #[.int .i64 k] 3)) (.slice (some ⟨w.heap.size,0,none⟩) 1 1) [k]:=by
 refine⟨_,1,rfl,⟨by simp,by simp⟩,(λh=>by cases h),.inr ⟨w.heap.size,0,rfl,by simp,λj hj=>?_⟩⟩;have hj0:j=0:=by simp at hj;omega
 subst hj0;rw [World.cell?_alloc_new];rfl
theorem b3s (lo B:Nat) (l:P.Dic) (st:List Int) (sc d p:Str) (n:Int) (word more:Str) (w:World) (h:SesM lo B (l,(st,sc)) (d,p,n) w) (hm:Small l) (ht:P.trans l (st,sc)=true) (hl:more.length<=2^20) (hE:L.Env w) :
 Cz 140 #[.pointer (some ⟨B,0,none⟩),.string (S word),.string (S more)] w (a5v lo B (P.a6b (l,(st,sc)) word more) (d,p,n) w):=by
 have HSM:=qh h;have HE:=qh hE;have HT:=qh ht
 have HNO:=qh (P.b9a (s:=(l,(st,sc))) (word:=word) (more:=more));have HSO:=qh (λo=>P.b9o (s:=(l,(st,sc))) (word:=word) (more:=more) (o:=o))
 clear h hE ht
 go_enter func140,ntmps140
 go_wp2_with fail
 refine (a7d more _ oZ HE.o.dic).mono ?_
 rintro e w1 ⟨ou,rfl,ho,hb⟩
 have HB1:=qh hb;have HO:=qh ho;have HE1:=qh (HE.o.below hb HE.o.size);have HS1:=qh (HSM.o.below hb)
 obtain⟨oa,oc,rfl⟩:=a0h ho
 clear hb ho
 cases hp:P.a1u more with
 |none=>
  have HP:=qh (HNO.o hp);clear hp;go_wp2;go_ret2;exact HSM.o.keep (x:=[]) HB1.o HP.o
 |some o=>
  refine zm74 ?_;intro HP0 hov;rw [hp]at HO;simp only [Option.getD_some,Option.isSome_some]at HO⊢;have HOR:=qh (a2j HO.o (show o.length<=2^45 by omega));clear hp;by_cases h1:word=[116,121,112,101]
  .have HP:Hq (P.a6b (l,(st,sc)) word more=P.typed (l,(st,sc)) o):=⟨HP0.o.trans (if_pos h1)⟩;have f1:=P.beqB h1;clear h1
   go_wp2_with fail
   refine (b1h lo B _ l st o sc d p n _ HS1.o hm HT.o HOR.o HE1.o).mono ?_;exact e4y
  .have f1:=P.beqN h1
   by_cases h2:word=[100,101,108,101,116,101]
   .have HP:Hq (P.a6b (l,(st,sc)) word more=P.a2x (l,(st,sc)) o):=⟨HP0.o.trans ((if_neg h1).trans (if_pos h2))⟩;have f2:=P.beqB h2;clear h1 h2
    go_wp2_with fail
    refine (c5o lo B _ l st o sc d p n _ HS1.o hm HT.o HOR.o HE1.o).mono ?_;exact e4y
   .have f2:=P.beqN h2;have HP:Hq (P.a6b (l,(st,sc)) word more=((l,(st,sc)),P.optB (P.b5g o l))):=⟨HP0.o.trans ((if_neg h1).trans (if_neg h2))⟩;clear h1 h2;obtain⟨_,_,u,us,hS,hR⟩:=HS1.o;have HU:=qh hR.dic;obtain⟨ad,cap,rfl,_,_⟩:=id hR.dic;obtain⟨⟨o0,o1,o2,o3,o4,o5,o6⟩,_⟩:=hS;simp only at o0 HU hR;clear hR
    go_wp2_with fail
    refine (c6w _ _ l o _ HU.o HOR.o hm HE1.o.dic).mono ?_;rintro e w2 ⟨rfl,hb⟩;have HB2:=bt HB1 hb;clear hb o0 o1 o2 o3 o4 o5 o6;go_wp2;go_ret2;exact⟨_,_,rfl,by rw [HP.o];rfl,by rw [HP.o];exact HSM.o.below HB2.o,Below.chg HB2.o _⟩
theorem c7y (lo B:Nat) (l:P.Dic) (st:List Int) (sc d p:Str) (n:Int) (word:Str) (w:World) (h:SesM lo B (l,(st,sc)) (d,p,n) w) (hm:Small l) (ht:P.trans l (st,sc)=true) (hE:L.Env w) :
 Cz 71 #[.pointer (some ⟨B,0,none⟩),.string (S word)] w (a5v lo B (P.alone (l,(st,sc)) word) (d,p,n) w):=by
 have HSM:=qh h;have HE:=qh hE;have HT:=qh ht;refine zm29 ?_;intro HP0;have hs60:=(P.a1m ht).1;try simp only at hs60
 obtain⟨hEB,hlo,u,us,hS,hR⟩:=h;have hBz:B<w.heap.size:=hS.1.2.2.2.2.2.2;have hu:=hR.dic;have hus:=hR.str;simp only at hS hR hu hus;have HU:=qh hu;have HUS:=qh hus;obtain⟨ad,cap,rfl,_,_⟩:=hu;obtain⟨sd,sap,rfl,_,_⟩:=hus;obtain⟨⟨o0,o1,o2,o3,o4,o5,o6⟩,_⟩:=hS;clear hE ht hR;by_cases h1:word=[117,110,100,111]
 .have HP:=qh (HP0.o.trans (if_pos h1));have f1:=P.beqB h1;have hba:=(Below.refl w.heap.size w).alloc lZ (.cells #[.int .i64 1024] 3);have HB1:=qh hba;have HS1:=qh (HSM.o.below hba);have HE1:=qh (HE.o.below hba HE.o.size);have HO:=qh (c1j 1024 w);clear h1 hba HP0
  go_enter func71,ntmps71
  go_wp2_with fail
  refine (b1h lo B _ l st [1024] sc d p n _ HS1.o hm HT.o HO.o HE1.o).mono ?_;exact e4y
 have HP1:=qh (HP0.o.trans (if_neg h1))
 have f1:=P.beqN h1
 clear HP0 h1
 by_cases h2:word=[115,99,114,101,101,110]
 .have HP:=qh (HP1.o.trans (if_pos h2));have f2:=P.beqB h2;clear h2 HP1
  go_enter func71,ntmps71
  go_wp2;go_ret2;exact⟨sc,true,rfl,by rw [HP.o];rfl,by rw [HP.o];exact HSM.o,Chg.refl _ _⟩
 have HP2:=qh (HP1.o.trans (if_neg h2))
 have f2:=P.beqN h2
 clear HP1 h2
 by_cases h3:word=[99,111,117,110,116]
 .have HP:=qh (HP2.o.trans (if_pos h3));have f3:=P.beqB h3;clear h3 HP2
  go_enter func71,ntmps71
  go_wp2_with fail
  refine (L.a6d (st.length:Int) _ oZ oZ HE.o).mono ?_;rintro e w1 ⟨rfl,hb⟩;have HB:=qh hb;clear hb;go_wp2;go_ret2;exact⟨P.num st.length,true,rfl,by rw [HP.o];rfl,by rw [HP.o];exact HSM.o.below HB.o,Below.chg HB.o _⟩
 have HP3:=qh (HP2.o.trans (if_neg h3))
 have f3:=P.beqN h3
 clear HP2 h3
 by_cases h4:word=[112,105,101,99,101,115]
 .have HP:=qh (HP3.o.trans (if_pos h4));have f4:=P.beqB h4;clear h4 HP3;have HRD:=qh (show w.drew.cell? ⟨B,0,none⟩=some (.slice ad l.length cap)/\w.drew.cell? ⟨B,1,none⟩=some (.slice sd st.length sap)/\B<w.drew.heap.size from⟨o0,o1,o6⟩);have HBD:Hq (Bl w w.drew):=⟨bZ.drew⟩
  go_enter func71,ntmps71
  go_upto_region 9 with fail
  clear o0 o1 o2 o3 o4 o5 o6
  go_cut [6] (λpv wx=>PcR wx pv (P.segA l st)/\Bl w wx)
  case first=>
   refine wp_region_held_drew (S:=λv=>v.cell? ⟨B,0,none⟩=some (.slice ad l.length cap)/\v.cell? ⟨B,1,none⟩=some (.slice sd st.length sap)/\B<v.heap.size) kZ HRD.o (λhS0=>?_);generalize w.drew=v0 at *;refine zm51 ?_;refine tk5 6 hS0 ?_;refine tk5 7 hS0 ?_;refine tk5 8 hS0 ?_;refine trd 9 λK hK=>?_;go_simp;refine (d5c _ _ l st _ (HU.o.below HBD.o) (HUS.o.below HBD.o) hs60).mono ?_;rintro e v1 ⟨pv,rfl,hpv,hb⟩;refine hK.out _ _ ⟨(hb.cell (p:=⟨B,0,none⟩) hS0.2.2).trans hS0.1,(hb.cell (p:=⟨B,1,none⟩) hS0.2.2).trans hS0.2.1,Nat.lt_of_lt_of_le hS0.2.2 hb.size⟩ (λhS1=>?_);clear hK K;have HPV:=qh hpv;have HB4:=bt HBD hb;obtain⟨pa,pc,rfl,_⟩:=hpv;clear hb;refine zm0 ?_;refine tk5 10 hS1 ?_;refine wpAnyH_done kZ ?_ _;go_wp2_with fail;go_meet;exact⟨HPV.o,HB4.o⟩
  case rest=>
   obtain⟨hpv,hb⟩:=hcut;have HPV:=qh hpv;have HB:=qh hb;have HE1:=qh (HE.o.below hb HE.o.size);have hsl:=P.b1t l st;obtain⟨pa,pc,rfl,_⟩:=hpv;have hbl:=P.b5o (P.segA l st);generalize P.segA l st=ps at *;generalize hww:wc=w3 at *;clear hww hb HRD HBD
   go_wp2_with fail
   refine (L.a6d (ps.length:Int) _ oZ oZ HE1.o).mono ?_;rintro e w4 ⟨rfl,hb⟩;have HB4:=bt HB hb;have HE4:=qh (HE1.o.below hb HE1.o.size);have HPV4:=qh (HPV.o.below hb);have hn1:=P.num_len ps.length oZ;clear hb
   go_wp2_with fail
   refine (d1j _ ps _ HPV4.o oZ).mono ?_;rintro e w5 ⟨rfl,hb⟩;have HB5:=bt HB4 hb;have HE5:=qh (HE4.o.below hb HE4.o.size);clear hb
   go_wp2_with fail
   refine (L.a6d (P.blank ps:Int) _ oZ oZ HE5.o).mono ?_;rintro e w6 ⟨rfl,hb⟩;have HB6:=bt HB5 hb;have hn2:=P.num_len (P.blank ps) oZ;clear hb;simp only [Int.toNat_natCast]at *;generalize P.num ps.length=na at *;generalize P.num (P.blank ps)=nb at *;go_wp2;go_ret2;exact⟨_,true,rfl,by rw [HP.o];simp [okB],by rw [HP.o];exact HSM.o.below HB6.o,Below.chg HB6.o _⟩
 .have HP:=qh (HP3.o.trans (if_neg h4));have f4:=P.beqN h4;clear h4 HP3
  go_enter func71,ntmps71
  go_wp2;go_ret2;exact HSM.o.keep (x:=[]) bZ HP.o
theorem d1b (u us:Value) (l:P.Dic) (st:List Int) (sc d p:Str) (n:Int) (word more:Str) (w:World) (hu:EntR w u l) (hus:IntR w us st) (hm:Small l) (ht:P.trans l (st,sc)=true) (hl:more.length<=2^20) :
 Cz 169 #[a1a u us sc d p n,.string (S word),.string (S more)] w (b3q u us (l,(st,sc)) (P.a6b (l,(st,sc)) word more) (d,p,n) w):=by
 have hu0:=hu;have hus0:=hus
 obtain⟨ad,cap,rfl,_,_⟩:=hu0
 obtain⟨sd,sap,rfl,_,_⟩:=hus0
 obtain⟨W0,hW0⟩:∃v,(w.alloc (a0d (.slice ad l.length cap) (.slice sd st.length sap) sc d p n)).alloc (a0d (.slice none 0 0) (.slice none 0 0) [] [] [] 0)=v:=⟨_,rfl⟩
 have hb0:Bl w W0:=by rw [<-hW0];exact ((Below.refl w.heap.size w).alloc lZ _).alloc sZ _
 have hz0:W0.heap.size=w.heap.size+2:=by rw [<-hW0];simp
 have hsx:SOut w.heap.size (.slice ad l.length cap) (.slice sd st.length sap) sc d p n W0:=by
  exact zq25
 have hsr:SOut (w.heap.size+1) (.slice none 0 0) (.slice none 0 0) [] [] [] 0 W0:=by
  exact zq20
 refine zm73 ?_;intro HU HUS HX HR HB;have HT:=qh ht;have hs60:=(P.a1m ht).1;try simp only at hs60
 clear hsx hsr hb0 ht hu hus;have HNO:=qh (P.b9a (s:=(l,(st,sc))) (word:=word) (more:=more));have HSO:=qh (λo=>P.b9o (s:=(l,(st,sc))) (word:=word) (more:=more) (o:=o));go_enter func169,ntmps169;go_upto_region 1 with fail;try rw [hW0]
 clear hW0;go_wp2_with fail;refine (a6z more _ oZ).mono ?_;rintro e w1 ⟨ou,rfl,ho,hb⟩;refine zm85 ?_;intro HX1 HR1 HB1;have HO:=qh ho;have hz1:w.heap.size+2<=w1.heap.size:=by have:=hb.size;omega
 obtain⟨oa,oc,rfl⟩:=a0h ho;clear hb ho HX HR HB
 cases hp:P.a1u more with
 |none=>
  have HP:=qh (HNO.o hp);clear hp;obtain⟨⟨o0,o1,o2,o3,o4,o5,o6⟩,_⟩:=HX1.o;obtain⟨⟨r0,r1,r2,r3,r4,r5,r6⟩,f0,f1,f2,f3,f4,f5⟩:=HR1.o;obtain⟨V,hV⟩:∃v,((((((w1.setCell ⟨w.heap.size+1,0,none⟩ ((.slice ad l.length cap))).setCell ⟨w.heap.size+1,1,none⟩ ((.slice sd st.length sap))).setCell ⟨w.heap.size+1,2,none⟩ (.string (S sc))).setCell ⟨w.heap.size+1,3,none⟩ (.string (S d))).setCell ⟨w.heap.size+1,4,none⟩ (.string (S p))).setCell ⟨w.heap.size+1,5,none⟩ (.int .i64 n))=v:=⟨_,rfl⟩;have hset:Chg (λb=>b=w.heap.size+1) w1 V:=by rw [<-hV];exact (((((((Chg.refl (λb=>b=w.heap.size+1) w1).setCell (p:=⟨w.heap.size+1,0,none⟩) rfl _).setCell (p:=⟨w.heap.size+1,1,none⟩) rfl _).setCell (p:=⟨w.heap.size+1,2,none⟩) rfl _).setCell (p:=⟨w.heap.size+1,3,none⟩) rfl _).setCell (p:=⟨w.heap.size+1,4,none⟩) rfl _).setCell (p:=⟨w.heap.size+1,5,none⟩) rfl _)
  refine zm30 ?_;intro HRV HBV;go_wp2;refine zn50 ?_;intro q0 q1 q2 q3 q4 q5 q6;clear hset hV;refine bodyPost_ret (v:=.tuple #[a1a ((.slice ad l.length cap)) ((.slice sd st.length sap)) sc d p n,.string (S [63])]) (by simp [results,results169,go_sem,q0,q1,q2,q3,q4,q5]) rfl ⟨(.slice ad l.length cap),(.slice sd st.length sap),by rw [HP.o]<;>rfl,by rw [HP.o];exact .inl ⟨rfl,rfl⟩,by rw [HP.o];exact .inl ⟨rfl,rfl⟩,HBV.o⟩
 |some o=>
  refine zm74 ?_;intro HP0 hov;rw [hp]at HO;simp only [Option.getD_some,Option.isSome_some]at HO⊢;have HOR:=qh (a2j HO.o (show o.length<=2^45 by omega));clear hp;by_cases h1:word=[116,121,112,101]
  .have HP:Hq (P.a6b (l,(st,sc)) word more=P.typed (l,(st,sc)) o):=⟨HP0.o.trans (if_pos h1)⟩;have e1:=P.beqB h1;clear h1 HP0;obtain⟨⟨o0,o1,o2,o3,o4,o5,o6⟩,_⟩:=HX1.o;go_wp2_with fail;refine (c7n _ _ _ l st o sc d p n _ (HU.o.below HB1.o) (HUS.o.below HB1.o) HOR.o hm HT.o).mono ?_;rintro e x2 ⟨nu,nus,rfl,hfe,hfi,hb⟩;refine zm44 ?_;intro HEN HIN;obtain⟨⟨⟨l2,⟨st2,sc2⟩⟩,rep⟩,ha⟩:∃a,P.typed (l,(st,sc)) o=a:=⟨_,rfl⟩;exact zq9
  .have e1:=P.beqN h1
   by_cases h2:word=[100,101,108,101,116,101]
   .have HP:Hq (P.a6b (l,(st,sc)) word more=P.a2x (l,(st,sc)) o):=⟨HP0.o.trans ((if_neg h1).trans (if_pos h2))⟩;have e2:=P.beqB h2;clear h1 h2 HP0;obtain⟨⟨o0,o1,o2,o3,o4,o5,o6⟩,_⟩:=HX1.o;go_wp2_with fail;refine (d6g _ _ _ l st o sc d p n _ (HU.o.below HB1.o) (HUS.o.below HB1.o) HOR.o hm HT.o).mono ?_;rintro e x2 ⟨nu,nus,rfl,hfe,hfi,hb⟩;refine zm44 ?_;intro HEN HIN;obtain⟨⟨⟨l2,⟨st2,sc2⟩⟩,rep⟩,ha⟩:∃a,P.a2x (l,(st,sc)) o=a:=⟨_,rfl⟩;exact zq9
   .have e2:=P.beqN h2;have HP:Hq (P.a6b (l,(st,sc)) word more=((l,(st,sc)),okB (P.a3a o l) (P.hasE o l))):=⟨HP0.o.trans ((if_neg h1).trans ((if_neg h2).trans (by unfold P.optB P.b5g;rw [if_pos (P.a9x HT.o)];rfl)))⟩;clear h1 h2 HP0;have HORD:Hq (IntR w1.drew (.slice oa o.length oc) o):=⟨HOR.o.below bZ.drew⟩;have HXD:=qh (HX1.o.below bZ.drew);have HRD2:=qh (HR1.o.below bZ.drew);have HBD:=qh (HB1.o.trans (bZ.drew.mono HB1.o.size));go_upto_region 9 with fail;refine zm6 ?_;intro hS0;generalize w1.drew=y0 at *;refine zm37 ?_;have HOD:Hq (IntR y0 (.slice oa o.length oc) o):=⟨HORD.o⟩;refine trd 4 λK hK=>?_;go_simp;refine (e1m _ _ l o _ (HU.o.below HBD.o) HOD.o).mono ?_;rintro e y2 ⟨rfl,hb⟩;have HR3:=qh (HRD2.o.below hb);have HB3:=bt HBD hb;refine hK.out _ _ (hS0.below hb) (λhS3=>?_);clear hK K hb hS0;refine zm0 ?_;refine tk2 5 hS3 ?_;refine tk2 6 hS3 ?_;refine trd 7 λK hK=>?_;go_simp;refine (d7m (P.a3a o l) (P.hasE o l) _).mono ?_;rintro e y1 ⟨rfl,rfl⟩;refine hK.out _ _ hS3 (λhS1=>?_);clear hK K hS3;refine zm0 ?_;have HR5:=qh HR3.o;have HB5:=qh HB3.o;obtain⟨⟨r0,r1,r2,r3,r4,r5,r6⟩,f0,f1,f2,f3,f4,f5⟩:=HR5.o;obtain⟨V,hV⟩:∃v,((((((y2.setCell ⟨w.heap.size+1,0,none⟩ ((.slice ad l.length cap))).setCell ⟨w.heap.size+1,1,none⟩ ((.slice sd st.length sap))).setCell ⟨w.heap.size+1,2,none⟩ (.string (S sc))).setCell ⟨w.heap.size+1,3,none⟩ (.string (S d))).setCell ⟨w.heap.size+1,4,none⟩ (.string (S p))).setCell ⟨w.heap.size+1,5,none⟩ (.int .i64 n))=v:=⟨_,rfl⟩;have hset:Chg (λb=>b=w.heap.size+1) y2 V:=by rw [<-hV];exact (((((((Chg.refl (λb=>b=w.heap.size+1) y2).setCell (p:=⟨w.heap.size+1,0,none⟩) rfl _).setCell (p:=⟨w.heap.size+1,1,none⟩) rfl _).setCell (p:=⟨w.heap.size+1,2,none⟩) rfl _).setCell (p:=⟨w.heap.size+1,3,none⟩) rfl _).setCell (p:=⟨w.heap.size+1,4,none⟩) rfl _).setCell (p:=⟨w.heap.size+1,5,none⟩) rfl _)
    refine zm1 ?_;intro HRV HBV;refine trd 8 λK hK=>?_;go_simp;refine zm15 ?_;intro hS2;clear hK K;try rw [hV]at hS2⊢
    clear r0 r1 r2 r3 r4 r5 r6 f0 f1 f2 f3 f4 f5;refine zm0 ?_;refine tk2 9 hS2 ?_;refine wpAnyH_done kZ ?_ _;go_wp2;refine zn50 ?_;intro q0 q1 q2 q3 q4 q5 q6;clear hset hV;refine bodyPost_ret (v:=.tuple #[a1a ((.slice ad l.length cap)) ((.slice sd st.length sap)) sc d p n,.string (S (txtB (okB (P.a3a o l) (P.hasE o l))))]) (by simp [results,results169,go_sem,q0,q1,q2,q3,q4,q5]) rfl ⟨(.slice ad l.length cap),(.slice sd st.length sap),by rw [HP.o]<;>rfl,by rw [HP.o];exact .inl ⟨rfl,rfl⟩,by rw [HP.o];exact .inl ⟨rfl,rfl⟩,HBV.o⟩
end Go.Proofs.YtggfdnopminemaaGreatDoor
