/- Walks: the screen of strokes (program). -/
import Derived.Test.YtggfdnopminemaaGreatDoorZt
import Derived.Test.YtggfdnopminemaaGreatDoorSeg
namespace Go.Proofs.YtggfdnopminemaaGreatDoor
namespace P
theorem c3b {t:Bs} (h:∀b∈t,b≠35):Go.Lib.replaceAll t [35] [61]=t:=by
 have hc:Go.Lib.count t [35]=0:=by
  rw [Go.Lib.count_one];exact List.count_eq_zero.2 fun hm=>h 35 hm rfl
 unfold Go.Lib.replaceAll Go.Lib.replace Go.Lib.replaceNum;rw [if_neg dZ,if_pos (.inl dZ),hc];rfl
theorem b9q {t:Bs} (h:∀b∈t,b≠35):Go.Lib.replaceAll (35::t) [35] [61]=61::t:=by
 have hc:Go.Lib.count (35::t) [35]=1:=by
  rw [Go.Lib.count_one,List.count_cons_self,List.count_eq_zero.2 fun hm=>h 35 hm rfl]
 have hi:Go.Lib.index (35::t) [35]=((0:Nat):Int):=by
  unfold Go.Lib.index;rw [if_pos sZ];rfl
 unfold Go.Lib.replaceAll Go.Lib.replace Go.Lib.replaceNum;rw [if_neg dZ,if_pos (.inl dZ),hc,Go.Lib.replaceK_hit _ _ _ _ _ hi];rfl
theorem c4f (s:Int):Go.Lib.replaceAll (fmt s) [35] [61]=raw s:=by
 obtain⟨t,ht,h⟩:=c1u s;have hl:=fun m=>b3x t m ht
 rcases h with h|h
 ·have hf:fmt s=fmtL (midK s) t:=by unfold fmt;rw [h]
  unfold raw;rw [hf,b3f (hl _),c3b (hl _)]
 ·have hf:fmt s=35::fmtL (midK s) t:=by
   unfold fmt;rw [h]
   conv=>lhs;unfold fmtL
   rfl
  unfold raw;rw [hf,List.map_cons,b3f (hl _),b9q (hl _)];rfl
end P
open Go Go.RowKit
set_option maxHeartbeats 4000000
set_option maxRecDepth 100000
theorem c4w (m:Int) (w:World) (hE:Env w) :
 Calls Tryz.prog 107 #[.string (S (P.fmt m)),.string (S [35]),.string (S [61])] w fun e w'=>e=.returned (.string (S (P.raw m)))∧Below w.heap.size w w':=by
 obtain⟨n,hm⟩:=hE.2
 have hl:=P.a7x m
 have hc:=Lib.countB_mul_le (S [35]) dZ (S (P.fmt m)).size (S (P.fmt m)) lZ
 have hc2:Lib.countB (S (P.fmt m)) (S [35])≤(P.fmt m).length:=by rw [S_size,S_size]at hc;simpa using hc
 refine (Tryz.strings_ReplaceAll (S (P.fmt m)) (S [35]) (S [61]) n w (by rw [S_size];omega) hm dZ (by rw [S_size,S_size];simp;omega)).mono ?_
 rintro e w' ⟨rfl,hb⟩
 rw [S_dataList,S_dataList,S_dataList,P.c4f]
 exact⟨rfl,hb⟩
theorem c2x (l:List (Int×Str)):(a0p l).length=l.length*2:=by
 induction l with
 |nil=>rfl
 |cons a l ih=>
  have e:a0p (a::l)=.int .i64 a.1::.string (S a.2)::a0p l:=rfl;rw [e,List.length_cons,List.length_cons,List.length_cons,ih];omega
theorem c0a {l:List (Int×Str)} {x:Value} (h:x∈a0p l):x.oneCell'=true:=by
 unfold a0p at h;rw [List.mem_flatMap]at h;obtain⟨a,_,h⟩:=h;simp only [List.mem_cons,List.not_mem_nil,or_false]at h
 rcases h with rfl|rfl<;>rfl
theorem b4k (l m:List (Int×Str)):a0p (l++m)=a0p l++a0p m:=by unfold a0p;rw [List.flatMap_append]
theorem b2i {B:Nat} {v:World} {u:Value} {l:List (Int×Str)} (h:a1e B v u l):c0r v 2 u l.length (a0p l):=by
 refine⟨c2x l,fun x hx=>c0a hx,?_⟩
 rcases id h.2 with⟨hv,h0⟩|⟨g,cap,cur,hv,_⟩
 ·exact .inl ⟨hv,h0⟩
 ·have hob:u.ownBlock=some g:=by rw [hv];rfl
  exact .inr ⟨_,cap,hv,fun j x hx=>World.ownsRow.cells h hob j x hx⟩
theorem b6x {w w1 w2:World} {v v':Value} {l m:List (Int×Str)} (hown:a1e w.heap.size w1 v l) (hb:Below w.heap.size w w1)
 (h:w2.ownsRow w.heap.size 177 2 v' (l.length+m.length) (a0p l++a0p m)) (hg:w1.grownBy w2 v.ownBlock) :
 a1e w.heap.size w2 v' (l++m)∧Below w.heap.size w w2:=by
 refine⟨?_,hb.grown hg hb.size (fun k hk=>(World.ownsRow.lt hown k hk).1)⟩
 unfold a1e;rw [b4k,List.length_append];exact h
theorem d6f (sv u:Value) (st:List Int) (l:List P.Pc) (w:World) (hs:IntR w sv st) (hu:PcR w u l) (hsl:P.a3a st=true) (hl:l.length≤60)
 (hp:∀p∈l,∃a k:Nat,a<st.length∧p.1=((a:Int),(k:Int))∧(p.2=[]∨(P.a0o p.2).2=true)) (hE:Env w) :
 Calls Tryz.prog 86 #[sv,u] w (a7n (P.render (P.a0z st l)) w):=by
 obtain⟨i0,hi,hz0,hz1,hz2⟩:=info_parts b0b
 have hba:=(Below.refl w.heap.size w).alloc lZ (.cells #[] 177)
 have HST:=qh hs;have HU:=qh hu;have HSL:=qh hsl;have HP:=qh hp;have HE:=qh hE
 have HOW:=qh (show a1e w.heap.size (w.alloc (.cells #[] 177)) (.slice (some ⟨w.heap.size,0,none⟩) 0 0) [] from World.ownsRow_made _ _ _ lZ dZ (by rfl))
 have HB0:=qh hba
 obtain⟨sd,sc,rfl,_,_⟩:=hs
 obtain⟨ad,cap,rfl,_,_⟩:=hu
 clear hba hsl hp hE
 go_enter Tryz.func86,Tryz.ntmps86
 go_wp2
 go_loopw [6,16] (fun v i wr=>∃j:Nat,j≤l.length∧i=.int .i64 j∧a1e w.heap.size wr v (P.a0z st (l.take j))∧Below w.heap.size w wr) (fun _ i _=>l.length-(intOf i).toNat)
 case atStart=>exact⟨0,Nat.zero_le _,rfl,HOW.o,HB0.o⟩
 case round=>
  clear HOW HB0;obtain⟨j,hj,rfl,hown,hb⟩:=hrel;have HOWN:=qh hown;have HB:=qh hb;obtain⟨va,vc,rfl⟩:=a7f hown;have hal:=P.a6l st (l.take j);rw [List.length_take,Nat.min_eq_left hj]at hal
  by_cases hlt:j<l.length
  ·obtain⟨g,o,hga,hgl,c0,c1,c2⟩:=(HU.o.below hb).at j hlt;obtain⟨a,k,hast,hpk,htx⟩:=HP.o _ (List.getElem_mem hlt);have HSN:=qh (show P.a0z st (l.take (j+1))=P.a0z st (l.take j)++P.a2z st l[j] by rw [a0f l j hlt,P.b2k]);subst hga;generalize l[j]=p at *;obtain⟨⟨p0,p1⟩,tx⟩:=p;simp only [Prod.mk.injEq]at hpk;obtain⟨rfl,rfl⟩:=hpk;simp only at c0 c1 c2 htx;have HTX:=qh htx;have i1:(j:Int)<(l.length:Int):=by omega
   have hbz:=hb.size;have HEW:=qh (HE.o.below hb HE.o.size);obtain⟨at0,hat0⟩:∃x,P.a0z st (l.take j)=x:=⟨_,rfl⟩;rw [hat0]at HOWN HSN hal⊢;clear hb hown htx hat0
   cases tx with
   |nil=>
    obtain⟨m,hm,hms,hmd⟩:=P.a8t HSL.o hast;have HMS:=qh hms;have HPA:=qh (show P.a2z st (((a:Int),(k:Int)),[])=[(1,P.raw (m:Int))] by rw [P.b7k rfl rfl,hmd]);obtain⟨gs,os,hgs,hgsl,cs⟩:=(HST.o.below HB.o).at a hast;rw [hm]at cs;subst hgs;have i2:(a:Int)<(st.length:Int):=by omega
    clear hms hm hmd
    go_wp2_with fail
    refine (a2v m _ HMS.o).mono ?_;rintro e w1 ⟨rfl,hb1⟩;have hbx:Below wr.heap.size wr w1:=(bZ.alloc lZ _).trans (hb1.mono sZ);have HE1:=qh (HEW.o.below hbx HEW.o.size);have HX1:=qh hbx;clear hb1 hbx c0 c1 c2 cs
    go_wp2_with fail
    refine (c4w (m:Int) _ HE1.o).mono ?_;rintro e w2 ⟨rfl,hb2⟩;have HX2:=bt HX1 hb2;have HOW2:=qh (show (w2.alloc (.cells #[.int .i64 1,.string (S (P.raw (m:Int)))] 177)).ownsRow w.heap.size 177 2 (.slice va at0.length vc) at0.length (a0p at0) from (a0g HOWN.o HX2.o lZ).alloc _);have hzw2:w.heap.size≤w2.heap.size:=Nat.le_trans hbz HX2.o.size;have hal2:at0.length≤600:=by omega
    clear hb2;generalize P.raw (m:Int)=rw' at *
    go_wp2_with (at_builtin;refine wpList_append_own _ rfl _ _ 171 rfl w.heap.size 177 i0 (.agg #[.int .i64 0,.string ⟨#[]⟩]) 2 24 Tryz.underlying171 hi hz0 hz1 hz2 rfl dZ _ at0.length (a0p at0) rfl HOW2.o ⟨w2.heap.size,0,none⟩ 1 1 [.int .i64 1,.string (S rw')] rfl rfl ?_ ?_ ?_ ?_ ?_ ?_)
    all_goals first|exact⟨rfl,rfl⟩|(intro z hz;simp only [List.mem_cons,List.not_mem_nil,or_false]at hz;rcases hz with rfl|rfl<;>rfl)|(unfold maxLen;omega)|omega|(simp;omega)|(intro i z hz;rcases i with _|_|i;(injection hz with hz;subst hz;rw [add0];go_simp);(injection hz with hz;subst hz;go_simp);cases hz)|skip
    intro v' w3 hown' hgrow _;have R:=qh (b6a (x:=(1,rw')) (w1:=w2) (o:=(.cells #[.int .i64 1,.string (S rw')] 177)) (v:=.slice va at0.length vc) hzw2 (a0g HOWN.o HX2.o lZ) (HB.o.trans (HX2.o.mono hbz)) hown' hgrow);exact zq113
   |cons x tl=>
    have hok:(P.a0o (x::tl)).2=true:=HTX.o.resolve_left sZ;have hl60:=P.a9p hok;have HOK:=qh hok;have HPA:=qh (show P.a2z st (((a:Int),(k:Int)),x::tl)=(P.a0o (x::tl)).1 from P.a9n sZ);have hne:((x::tl:Str) != [])=true:=rfl;have hne2:((x::tl:Str)==[])=false:=rfl;have hne3:¬(x::tl:Str)=[]:=by simp
    generalize x::tl=tx at *;clear hok
    go_wp2_with fail
    refine (a4a tx _ oZ (HEW.o.alloc _)).mono ?_;rintro e w1 ⟨pv,rfl,hpo,hb1⟩;have hpo':=hpo HOK.o;rw [HOK.o];have hbx:Below wr.heap.size wr w1:=(bZ.alloc lZ _).trans (hb1.mono sZ);have HX1:=qh hbx;have HSRC:=qh (b2i hpo');have hml:=P.b1x tx;have HOW1:=qh (a0g HOWN.o hbx lZ);obtain⟨ma,mc,rfl⟩:=a7f hpo';have hz1':w.heap.size≤w1.heap.size:=Nat.le_trans hbz hbx.size;have hal2:at0.length≤600:=by omega
    clear hb1 hbx hpo hpo' c0 c1 c2;generalize (P.a0o tx).1=ma1 at *
    go_wp2_with (at_builtin;refine a0y rfl _ _ 171 rfl w.heap.size 177 i0 (.agg #[.int .i64 0,.string ⟨#[]⟩]) 2 24 Tryz.underlying171 hi hz0 hz1 hz2 rfl dZ _ at0.length (a0p at0) rfl HOW1.o _ ma1.length (a0p ma1) rfl HSRC.o ?_ ?_ ?_ ?_)
    ·unfold maxLen;omega
    ·omega
    ·exact hz1'
    intro v' w3 hown' hgrow _;have R:=qh (b6x HOW1.o (HB.o.trans (HX1.o.mono hbz)) hown' hgrow);exact zq113
  ·have hjl:j=l.length:=by omega
   have hsum:(P.a0z st (l.take j)).length≤600:=by omega
   have HTE:=qh (show l.take j=l from List.take_of_length_le oZ);rw [HTE.o]at HOWN hsum;rw [HTE.o];have i1:¬(j:Int)<(l.length:Int):=by omega
   have HAT:=qh (show ∀x∈P.a0z st l,x.2.length≤2^29 from fun x hx=>P.b2p HP.o x hx);clear hown hb hal
   go_wp2_with fail
   refine (c3k _ _ _ (b5m HOWN.o) hsum HAT.o).mono ?_;rintro e w2 ⟨rfl,hb2⟩;have HB2:=bt HB hb2;clear hb2;go_wp2;go_ret2;exact⟨rfl,HB2.o⟩
theorem a4p (dv sv:Value) (l:P.Dic) (st:List Int) (w:World) (hu:EntR w dv l) (hs:IntR w sv st) (hm:Small l) (hE:Env w) :
 Calls Tryz.prog 26 #[.agg #[dv],sv] w (a7n (P.scr l st) w):=by
 have hb0:Below w.heap.size w (w.alloc (.cells #[dv] 26)):=bZ.alloc lZ _
 have HU:=qh (hu.below hb0);have HST:=qh (hs.below hb0);have HB0:=qh hb0;have HE:=qh (hE.below hb0 hE.size)
 have HX:=qh (DBx.new dv 26 w)
 clear hb0
 obtain⟨ad,cap,rfl,_,_⟩:=hu
 obtain⟨sd,sc,rfl,_,_⟩:=hs
 go_enter Tryz.func26,Tryz.ntmps26
 go_wp2_with fail
 refine (d4m _ _ l st _ HU.o HST.o hm HE.o).mono ?_
 rintro e w1 ⟨rfl,hb⟩
 have HB1:=bt HB0 hb;have HST1:=qh (HST.o.below hb);have HU1:=qh (HU.o.below hb);have HX1:=qh (HX.o.below hb);have HE1:=qh (HE.o.below hb HE.o.size)
 clear hb
 obtain⟨q,hq⟩:∃q,(P.dic l&&P.a3a st)=q:=⟨_,rfl⟩
 have HQ:=qh hq
 rw [hq]
 clear hq
 cases q
 ·go_wp2;go_ret2;have h:P.scr l st=([],false):=by unfold P.scr;rw [HQ.o];rfl
  exact⟨by rw [h];rfl,HB1.o⟩
 ·have HD:=qh (show P.dic l=true∧P.a3a st=true by have h:=HQ.o;simpa only [Bool.and_eq_true] using h);have hl60:=P.a4w HD.o.2;obtain⟨k0,_⟩:=HX1.o
  go_wp2_with fail
  refine (d4a _ _ l st _ HU1.o HST1.o hl60).mono ?_;rintro e w2 ⟨u,rfl,hp,hb⟩;have HB2:=bt HB1 hb;have HP:=qh hp;have HST2:=qh (HST1.o.below hb);have HE2:=qh (HE1.o.below hb HE1.o.size);obtain⟨ua,uc,rfl,_,_⟩:=hp;clear hb
  go_wp2_with fail
  refine (d6f _ _ st (P.segA l st) _ HST2.o HP.o HD.o.2 (Nat.le_trans (P.b1c l st) hl60) (fun p hp=>P.b4q HD.o.1 hp) HE2.o).mono ?_;rintro e w3 ⟨rfl,hb3⟩;have HB3:=bt HB2 hb3;clear hb3;have HS:=qh (show P.scr l st=P.render (P.a0z st (P.segA l st)) by unfold P.scr;rw [HQ.o];rfl);go_wp2;go_ret2;exact⟨by rw [HS.o];rfl,HB3.o⟩
def d7k (x:P.Edit) (w:World) (e:Ending) (w':World):Prop:=e=.returned (.agg #[.int .i64 x.1,.string (S x.2)])∧Below w.heap.size w w'
theorem a8d (a b:Str) (w:World) (ha:a.length≤2^30) (hb:b.length≤2^30) :
 Calls Tryz.prog 208 #[.string (S a),.string (S b)] w (d7k (P.least a b) w):=by
 go_enter Tryz.func208,Tryz.ntmps208
 go_wp2
 go_loopw [5] (fun i wr=>∃j:Nat,j≤a.length∧j≤b.length∧i=.int .i64 j∧a.take j=b.take j∧∃n,wr=(w.alloc (.cells #[.int .i64 0,.string (S [])] 55)).drewN n) (fun i _=>a.length-(intOf i).toNat)
 case atStart=>exact⟨0,Nat.zero_le _,Nat.zero_le _,rfl,rfl,0,rfl⟩
 case round=>
  obtain⟨j,hj,hk,rfl,hpre,n,rfl⟩:=hrel;have HPRE:=qh hpre;have HSB:=qh (show (a.length-j:Nat)=(a.length:Int)-(j:Int) by omega);clear hpre
  by_cases h1:j<a.length
  ·have i1:(j:Int)<(a.length:Int):=by omega
   by_cases h2:j<b.length
   ·have i2:(j:Int)<(b.length:Int):=by omega
    by_cases h3:a[j]=b[j]
    ·exact zq81
    ·have f3:((((a[j]'h1).toNat:Nat):Int)==(((b[j]'h2).toNat:Nat):Int))=false:=by
      rw [beq_eq_false_iff_ne];intro h;exact h3 (UInt8.toNat_inj.1 oZ)
     have HL:=qh (P.b5c j a b HPRE.o oZ oZ (.inr (.inr ⟨h1,h2,h3⟩)));exact zq42
   ·have i2:¬(j:Int)<(b.length:Int):=by omega
    have HL:=qh (P.b5c j a b HPRE.o oZ oZ (.inr (.inl oZ)));exact zq42
  ·have i1:¬(j:Int)<(a.length:Int):=by omega
   have HL:=qh (P.b5c j a b HPRE.o oZ oZ (.inl oZ));exact zq42
section
set_option maxHeartbeats 2000000
abbrev a0r (u:Value) (sc:Str):Value:=.agg #[u,.string (S sc)]
abbrev logV (d p:Str) (n:Int):Value:=.agg #[.string (S d),.string (S p),.int .i64 n]
abbrev a1d (u us:Value) (sc d p:Str) (n:Int):Value:=.agg #[u,us,.string (S sc),.string (S d),.string (S p),.int .i64 n]
theorem c2r (u v:Value) (l:List Int) (t:Str) (w:World) (hu:IntR w u l) (hv:IntR w v l) :
 Calls Tryz.prog 97 #[a0r u t,a0r v t] w fun e w'=>e=.returned (.bool true)∧Below w.heap.size w w':=by
 have hb0:Below w.heap.size w ((w.alloc (.cells #[u,.string (S t)] 35)).alloc (.cells #[v,.string (S t)] 35)):=
  ((Below.refl w.heap.size w).alloc lZ _).alloc sZ _
 have HU:=qh (hu.below hb0);have HV:=qh (hv.below hb0)
 have HB0:=qh hb0;clear hb0
 obtain⟨ad,cap,rfl,hla,_⟩:=hu
 obtain⟨bd,dap,rfl,_,_⟩:=hv
 go_enter Tryz.func97,Tryz.ntmps97
 go_wp2_with fail
 refine (d7i _ _ l _ HU.o HV.o).mono ?_
 rintro e w1 ⟨rfl,hb⟩
 have hz:w.heap.size+1<w1.heap.size:=by have:=hb.size;simp at this;omega
 obtain⟨hcc,hff⟩:=a4n hb
 have r1:w1.cell? ⟨w.heap.size,1,none⟩=some (.string (S t)):=by rw [hcc _ _ (by simp;omega)];go_simp
 have q1:w1.cell? ⟨w.heap.size+1,1,none⟩=some (.string (S t)):=by rw [hcc _ _ sZ];go_simp
 have HB1:=qh (HB0.o.trans (hb.mono (by simp;omega)))
 clear hb hcc hff HU HV HB0
 go_wp2
 first|go_quiet (fail)|skip
 go_wp2
 go_ret
 exact⟨rfl,by first|exact HB1.o|exact below_drewN HB1.o _⟩
theorem eqLog (d p:Str) (n:Int) (w:World) :
 Calls Tryz.prog 98 #[logV d p n,logV d p n] w fun e w'=>e=.returned (.bool true)∧Below w.heap.size w w':=by
 have HB0:=qh (show Below w.heap.size w ((w.alloc (.cells #[.string (S d),.string (S p),.int .i64 n] 28)).alloc (.cells #[.string (S d),.string (S p),.int .i64 n] 28)) from
  ((Below.refl w.heap.size w).alloc lZ _).alloc sZ _)
 go_enter Tryz.func98,Tryz.ntmps98
 go_wp2
 go_ret
 exact⟨rfl,HB0.o⟩
theorem b6d (u:Value) (l:List Int) (t:Str) (k:Int) (F:Blk) (w:World) (hu:Ints w F u l) (hk0:0≤k) (hk:k≤2^40) :
 Calls Tryz.prog 100 #[a0r u t,.int .i64 k] w fun e w'=>e=.returned (.int .i64 (k+l.length))∧Ints w' F u (P.marks k l.length)∧Chg F w w':=by
 have HU:=qh (hu.below a0t ((Below.refl w.heap.size w).alloc lZ (.cells #[u,.string (S t)] 35)))
 have HC:=qh ((Chg.refl F w).alloc (.cells #[u,.string (S t)] 35))
 obtain⟨ad,cap,rfl,_,_⟩:=hu
 go_enter Tryz.func100,Tryz.ntmps100
 go_wp2_with fail
 refine (c5v _ l k F _ HU.o hk0 hk).mono ?_
 rintro e w1 ⟨rfl,hI,hc,_⟩
 have HI:=qh hI;have HC1:=qh (HC.o.trans hc)
 clear hI hc
 go_wp2
 go_ret
 exact⟨rfl,HI.o,HC1.o⟩
def SBox (b:Nat) (u us:Value) (sc d p:Str) (n:Int) (v:World):Prop:=
 v.cell? ⟨b,0,none⟩=some u∧v.cell? ⟨b,1,none⟩=some us∧v.cell? ⟨b,2,none⟩=some (.string (S sc))∧v.cell? ⟨b,3,none⟩=some (.string (S d))∧v.cell? ⟨b,4,none⟩=some (.string (S p))∧v.cell? ⟨b,5,none⟩=some (.int .i64 n)∧b<v.heap.size
theorem SBox.a0c {b:Nat} {u us:Value} {sc d p:Str} {n:Int} {v v':World} {X:Blk} (h:SBox b u us sc d p n v) (hc:Chg X v v') (hX:¬X b):SBox b u us sc d p n v':=by
 obtain⟨h0,h1,h2,h3,h4,h5,h6⟩:=h;exact⟨(hc.cell (p:=⟨b,0,none⟩) h6 hX).trans h0,(hc.cell (p:=⟨b,1,none⟩) h6 hX).trans h1,(hc.cell (p:=⟨b,2,none⟩) h6 hX).trans h2,(hc.cell (p:=⟨b,3,none⟩) h6 hX).trans h3,(hc.cell (p:=⟨b,4,none⟩) h6 hX).trans h4,(hc.cell (p:=⟨b,5,none⟩) h6 hX).trans h5,Nat.lt_of_lt_of_le h6 hc.size⟩
theorem SBox.below {b:Nat} {u us:Value} {sc d p:Str} {n:Int} {v v':World} (h:SBox b u us sc d p n v) (hb:Below v.heap.size v v'):SBox b u us sc d p n v':=
 h.a0c (Below.chg hb fun _=>False) fun h=>h
abbrev a0d (u us:Value) (sc d p:Str) (n:Int):Obj:=.cells #[u,us,.string (S sc),.string (S d),.string (S p),.int .i64 n] 37
theorem SBox.new (u us:Value) (sc d p:Str) (n:Int) (v:World):SBox v.heap.size u us sc d p n (v.alloc (a0d u us sc d p n)):=by
 refine⟨?_,?_,?_,?_,?_,?_,by simp⟩<;>go_simp
theorem d1g (u v us vs:Value) (l:P.Dic) (ks:List Int) (sc d p:Str) (n:Int) (w:World) (hu:EntR w u l) (hv:EntR w v l) (hus:IntR w us ks) (hvs:IntR w vs ks) :
 Calls Tryz.prog 36 #[a1d u us sc d p n,a1d v vs sc d p n] w fun e w'=>e=.returned (.bool true)∧Below w.heap.size w w':=by
 have hb1:Below w.heap.size w (w.alloc (a0d u us sc d p n)):=(Below.refl w.heap.size w).alloc lZ _
 have hb0:Below w.heap.size w ((w.alloc (a0d u us sc d p n)).alloc (a0d v vs sc d p n)):=hb1.alloc sZ _
 have B1:=qh ((SBox.new u us sc d p n w).below (bZ.alloc lZ (a0d v vs sc d p n)))
 have B2:=qh (show SBox (w.heap.size+1) v vs sc d p n ((w.alloc (a0d u us sc d p n)).alloc (a0d v vs sc d p n)) by have:=SBox.new v vs sc d p n (w.alloc (a0d u us sc d p n));simpa using this)
 have HU:=qh (hu.below hb0);have HV:=qh (hv.below hb0);have HUS:=qh (hus.below hb0);have HVS:=qh (hvs.below hb0)
 have HB0:=qh hb0;clear hb0 hb1
 obtain⟨ad,cap,rfl,_,_⟩:=hu
 obtain⟨bd,dap,rfl,_,_⟩:=hv
 obtain⟨sd,sap,rfl,_,_⟩:=hus
 obtain⟨td,tap,rfl,_,_⟩:=hvs
 go_enter Tryz.func36,Tryz.ntmps36
 go_wp2_with fail
 refine (c2m _ _ l _ HU.o HV.o).mono ?_
 rintro e w1 ⟨rfl,hb⟩
 have B11:=qh (B1.o.below hb);have B21:=qh (B2.o.below hb)
 have HUS1:=qh (HUS.o.below hb);have HVS1:=qh (HVS.o.below hb)
 have HB1:=qh (HB0.o.trans (hb.mono (by simp;omega)))
 clear hb HU HV HB0 B1 B2 HUS HVS
 obtain⟨_,a1,a2,a3,a4,a5,a6⟩:=B11.o
 obtain⟨_,b1,b2,b3,b4,b5,b6⟩:=B21.o
 go_wp2_with fail
 refine (c2r _ _ ks sc _ HUS1.o HVS1.o).mono ?_
 rintro e w2 ⟨rfl,hb⟩
 have B12:=qh (B11.o.below hb);have B22:=qh (B21.o.below hb)
 have HB2:=bt HB1 hb
 clear hb HB1 B11 B21 HUS1 HVS1 a1 a2 a3 a4 a5 b1 b2 b3 b4 b5
 obtain⟨_,_,_,a3,a4,a5,_⟩:=B12.o
 obtain⟨_,_,_,b3,b4,b5,_⟩:=B22.o
 go_wp2_with fail
 refine (eqLog d p n _).mono ?_
 rintro e w3 ⟨rfl,hb⟩
 have HB3:=bt HB2 hb
 clear hb HB2
 go_wp2
 go_ret
 exact⟨rfl,HB3.o⟩
theorem c3u (u us:Value) (l:P.Dic) (ks:List Int) (sc d p:Str) (n k:Int) (F G:Blk) (w:World) (hu:Ents w F u l) (hus:Ints w G us ks) (hF:∀b,F b→b<w.heap.size) (hG:∀b,G b→b<w.heap.size) (hFG:∀b,F b→G b→False) (hk0:0≤k) (hk:P.kAt k l≤2^40) :
 Calls Tryz.prog 37 #[a1d u us sc d p n,.int .i64 k] w fun e w'=>e=.returned (.int .i64 (P.kAt k l+ks.length))∧Ents w' F u (P.a7m k l)∧Ints w' G us (P.marks (P.kAt k l) ks.length)∧Chg (fun b=>F b∨G b) w w':=by
 have hb0:=(Below.refl w.heap.size w).alloc lZ (a0d u us sc d p n)
 have HU:=qh (hu.below a0e hb0);have HUS:=qh (hus.below a0t hb0)
 have HC0:=qh (Below.chg hb0 fun b=>F b∨G b)
 have HBX:=qh (SBox.new u us sc d p n w)
 have HF:=qh hF;have HG:=qh hG;have HFG:=qh hFG
 obtain⟨ad,cap,rfl,_,_⟩:=hu
 obtain⟨sd,sap,rfl,hks,_⟩:=hus
 clear hb0 hF hG hFG
 have hg:=P.b6u k l
 have HKG:=qh (show 0≤P.kAt k l by omega);clear hg
 go_enter Tryz.func37,Tryz.ntmps37
 go_wp2_with fail
 refine (b6i _ l k F _ HU.o hk0 hk).mono ?_
 rintro e w1 ⟨rfl,hI,hc⟩
 have HI:=qh hI
 have HB1:=qh (HBX.o.a0c hc fun h=>Nat.lt_irrefl _ (HF.o _ h))
 have HUS1:=qh (HUS.o.a0c a0t hc fun b h1 h2=>HFG.o b h2 h1)
 have HC1:=qh (HC0.o.trans (hc.mono (F':=fun b=>F b∨G b) fun b _ h=>.inl h))
 clear hI hc HC0 HBX HU HUS
 obtain⟨_,a1,a2,_⟩:=HB1.o
 go_wp2_with fail
 refine (b6d _ ks sc (P.kAt k l) G _ HUS1.o HKG.o hk).mono ?_
 rintro e w2 ⟨rfl,hJ,hc⟩
 have HJ:=qh hJ
 have HI2:=qh (HI.o.a0c a0e hc fun b h1 h2=>HFG.o b h1 h2)
 have HC2:=qh (HC1.o.trans (hc.mono (F':=fun b=>F b∨G b) fun b _ h=>.inr h))
 clear hJ hc HC1 HI HB1 a1 a2 HUS1
 go_wp2
 go_ret
 exact⟨rfl,HI2.o,HJ.o,HC2.o⟩
end
section
set_option maxHeartbeats 2000000
end
theorem has (u:Value) (l:List Int) (x:Int) (w:World) (hu:IntR w u l) :
 Calls Tryz.prog 183 #[u,.int .i64 x] w fun e w'=>e=.returned (.bool (l.contains x))∧w'=w:=by
 obtain⟨ad,cap,rfl,⟨hl,hc⟩,hn,h3⟩:=hu
 have HC:=qh (show Calls Tryz.prog 246 #[.slice ad l.length cap,.int .i64 x] w fun e w'=>e=.returned (.bool (l.contains x))∧w'=w by
  rcases h3 with rfl|⟨g,o,rfl,hg,hcell⟩
  ·exact Tryz.slices_Contains_int_empty ad cap x w
  ·have h:=Tryz.slices_Contains_int g o l.length cap l x w lZ oZ (fun j hj=>by rw [hcell j hj];simp [hj]);rw [List.take_length]at h;exact h)
 clear h3 hn
 obtain⟨q,hq⟩:∃q,l.contains x=q:=⟨_,rfl⟩
 rw [hq]at HC⊢
 clear hq
 go_enter Tryz.func183,Tryz.ntmps183
 go_wp2_with fail
 refine HC.o.mono ?_
 rintro e w' ⟨rfl,rfl⟩
 go_wp2
 go_ret
 exact⟨rfl,rfl⟩
def TBx (b:Nat) (u:Value) (t:Str) (v:World):Prop:=b<v.heap.size∧v.cell? ⟨b,0,none⟩=some u∧v.cell? ⟨b,1,none⟩=some (.string (S t))∧v.frozen? ⟨b,0,none⟩=false∧v.frozen? ⟨b,1,none⟩=false
theorem TBx.below {b:Nat} {u:Value} {t:Str} {v v':World} (h:TBx b u t v) (hb:Below v.heap.size v v'):TBx b u t v':=by
 exact zq105
theorem TBx.new (u:Value) (t:Str) (v:World):TBx v.heap.size u t (v.alloc (.cells #[u,.string (S t)] 35)):=⟨by simp,by go_simp,by go_simp,by go_simp,by go_simp⟩
theorem a2l (dv sv:Value) (l:P.Dic) (st:List Int) (t:Str) (w:World) (hu:EntR w dv l) (hs:IntR w sv st) (hm:Small l) (hE:Env w) :
 Calls Tryz.prog 106 #[.agg #[dv],a0r sv t] w fun e w'=>e=.returned (.bool (P.trans l (st,t)))∧Below w.heap.size w w':=by
 have hb0:Below w.heap.size w ((w.alloc (.cells #[dv] 26)).alloc (.cells #[sv,.string (S t)] 35)):=((Below.refl w.heap.size w).alloc lZ _).alloc sZ _
 have HU:=qh (hu.below hb0);have HST:=qh (hs.below hb0);have HB0:=qh hb0;have HE:=qh (hE.below hb0 hE.size)
 have HX:=qh (show TBx (w.heap.size+1) sv t ((w.alloc (.cells #[dv] 26)).alloc (.cells #[sv,.string (S t)] 35)) by simpa using TBx.new sv t (w.alloc (.cells #[dv] 26)))
 clear hb0
 obtain⟨ad,cap,rfl,_,_⟩:=hu
 obtain⟨sd,sc,rfl,_,_⟩:=hs
 unfold a0r
 go_enter Tryz.func106,Tryz.ntmps106
 go_wp2_with fail
 refine (a4p _ _ l st _ HU.o HST.o hm HE.o).mono ?_
 rintro e w1 ⟨rfl,hb⟩
 have HB1:=bt HB0 hb;have HST1:=qh (HST.o.below hb);have HX1:=qh (HX.o.below hb)
 have HP:=qh (show P.trans l (st,t)=((P.scr l st).2&&((P.scr l st).1==t&&!st.contains 1024)) from rfl)
 clear hb
 generalize P.scr l st=r at *
 obtain⟨r1,r2⟩:=r
 obtain⟨k0,k1,k2,_⟩:=HX1.o
 cases r2
 ·go_wp2;go_ret;exact⟨by rw [HP.o];rfl,HB1.o⟩
 ·by_cases h:r1=t
  ·subst h
   go_wp2_with fail
   refine (has _ st 1024 _ HST1.o).mono ?_;rintro e w2 ⟨rfl,rfl⟩;obtain⟨q,hq⟩:∃q,st.contains 1024=q:=⟨_,rfl⟩;rw [hq]at HP⊢;clear hq;go_wp2;go_ret;exact⟨by rw [HP.o];simp,HB1.o⟩
  ·exact zq140
namespace P
theorem c5p (l:List Int) (k:Int):(next l k).length≤l.length+1:=by
 unfold next
 split
 ·rw [List.length_take];omega
 ·rw [List.length_append];simp
end P
set_option maxHeartbeats 2000000
theorem a2b {B:Nat} {v:World} {u:Value} {l:List Int} (h:OwnK B v u l) (hl:l.length≤2^45):IntR v u l:=by
 have h':=h
 rcases h.2 with⟨rfl,h0⟩|⟨g,cap,cur,rfl,h1,h2,h3,h4,h5⟩
 ·have:l=[]:=by cases l with
   |nil=>rfl
   |cons=>simp at h0
  subst this;exact⟨none,0,rfl,⟨by simp,by simp⟩,fun _=>rfl,.inl rfl⟩
 ·refine⟨some ⟨g,0,none⟩,cap,rfl,⟨hl,h3⟩,(fun h=>by cases h),.inr ⟨g,0,rfl,?_,fun j hj=>?_⟩⟩
  ·exact (World.ownsRow.lt h' g rfl).2
  ·rw [Nat.zero_add,World.ownsRow.cellAt h' j oZ];unfold ints;rw [List.getElem?_map,List.getElem?_eq_getElem hj];rfl
theorem IntR.cap {v:World} {a:Option Addr} {n c:Nat} {l:List Int} (h:IntR v (.slice a n c) l):l.length≤c:=by
 obtain⟨ad,cap,h1,h2,_⟩:=h;injection h1 with _ _ h3;subst h3;exact h2.2
theorem c2p {B:Nat} {v:World} {a:Option Addr} {c m:Nat} {l:List Int} (h:OwnK B v (.slice a l.length c) l) (hl:l≠[]) (hm:m≤l.length):OwnK B v (.slice a m c) (l.take m):=by
 have hml:(l.take m).length=m:=by rw [List.length_take];omega
 rcases h.2 with⟨h1,h0⟩|⟨g,cap,cur,h0,h1,h2,h3,h4,h5,h6⟩
 ·exact absurd (List.eq_nil_of_length_eq_zero h0) hl
 ·injection h0 with h7 _ h8;subst h7 h8;refine⟨by simp [ints],.inr ⟨g,c,cur,by rw [hml],h1,h2,by omega,h4,h5,?_⟩⟩;rw [hml];have h9:(cur.toList.take (l.length*1)).take m=(ints l).take m:=by rw [h6]
  rw [List.take_take,Nat.min_eq_left oZ]at h9;rw [Nat.mul_one,h9];unfold ints;rw [List.map_take]
def EBx (b:Nat) (v:World):Prop:=b<v.heap.size∧v.cell? ⟨b,0,none⟩=some (.int .i64 0)∧v.cell? ⟨b,1,none⟩=some (.string (S []))∧v.frozen? ⟨b,0,none⟩=false∧v.frozen? ⟨b,1,none⟩=false
theorem EBx.below {b:Nat} {v v':World} (h:EBx b v) (hb:Below v.heap.size v v'):EBx b v':=by
 exact zq105
def PrBx (b:Nat) (sv:Value) (t:Str) (dv:Value) (v:World):Prop:=(b<v.heap.size∧v.cell? ⟨b,0,none⟩=some dv)∧TBx (b+1) sv t v∧TBx (b+1+1) (.slice none 0 0) [] v∧EBx (b+1+1+1) v
theorem PrBx.below {b:Nat} {sv dv:Value} {t:Str} {v v':World} (h:PrBx b sv t dv v) (hb:Below v.heap.size v v'):PrBx b sv t dv v':=
 ⟨⟨Nat.lt_of_lt_of_le h.1.1 hb.size,(hb.cell (p:=⟨b,0,none⟩) h.1.1).trans h.1.2⟩,h.2.1.below hb,h.2.2.1.below hb,h.2.2.2.below hb⟩
def a1c (e:P.Edit):Value:=.agg #[.int .i64 e.1,.string (S e.2)]
def b5y (r:(P.Tr×P.Edit)×Bool) (w:World) (e:Ending) (w':World):Prop:=
 ∃u,e=.returned (.tuple #[a0r u r.1.1.2,a1c r.1.2,.bool r.2])∧OwnK w.heap.size w' u r.1.1.1∧Below w.heap.size w w'
theorem a5k (dv sv:Value) (l:P.Dic) (st:List Int) (t:Str) (k:Int) (w:World) (hu:EntR w dv l) (hs:IntR w sv st) (hm:Small l) (hE:Env w) (hst:st.length≤2^20) (ht:t.length≤2^30) :
 Calls Tryz.prog 268 #[.agg #[dv],a0r sv t,.int .i64 k] w (b5y (P.b2d l (st,t) k) w):=by
 obtain⟨i0,hi,hz0,hz1,hz2⟩:=info_parts a2n
 obtain⟨W0,hW0⟩:∃v,((((w.alloc (.cells #[dv] 26)).alloc (.cells #[sv,.string (S t)] 35)).alloc (.cells #[.slice none 0 0,.string (S [])] 35)).alloc (.cells #[.int .i64 0,.string (S [])] 55))=v:=⟨_,rfl⟩
 have hb0:Below w.heap.size w W0:=by rw [←hW0];exact ((((Below.refl w.heap.size w).alloc lZ _).alloc sZ _).alloc (by simp;omega) _).alloc (by simp;omega) _
 have hz0':W0.heap.size=w.heap.size+4:=by rw [←hW0];simp
 have hx0:PrBx w.heap.size sv t dv W0:=by
  exact zq55
 have HU:=qh (hu.below hb0);have HST:=qh (hs.below hb0);have HB0:=qh hb0;have HE:=qh (hE.below hb0 hE.size)
 have HX:=qh hx0;have HZ0:=qh hz0'
 clear hb0 hz0'
 obtain⟨ad,cap,rfl,_,_⟩:=hu
 obtain⟨sd,sc,rfl,_,_⟩:=hs
 unfold a0r
 go_enter Tryz.func268,Tryz.ntmps268
 go_upto_region 1 with (fail)
 try rw [hW0]
 clear hW0
 obtain⟨k0,⟨k1,k2,k3,_⟩,_,_⟩:=hx0
 go_wp2_with fail
 refine (a8v _ st _ HST.o oZ).mono ?_
 rintro e w1 ⟨u,rfl,ho,hb⟩
 have HB1:=qh hb;have HX1:=qh (HX.o.below hb);have HOW:=qh ho
 obtain⟨ua,uc,rfl⟩:=a0i ho
 have hz1':=hb.size
 clear k0 k1 k2 k3 ho hb
 have HOW2:=qh (HOW.o.alloc (.cells #[.int .i64 k] 3))
 go_wp2_with (at_builtin;refine wpList_append_own _ rfl _ _ 33 rfl W0.heap.size 3 i0 (.int .i64 0) 1 8 Tryz.underlying33 hi hz0 hz1 hz2 rfl dZ (.slice ua st.length uc) st.length (ints st) rfl HOW2.o ⟨w1.heap.size,0,none⟩ 1 1 [.int .i64 k] rfl rfl ?_ ?_ ?_ ?_ ?_ ?_)
 all_goals first|exact⟨rfl,rfl⟩|(intro z hz;simp only [List.mem_cons,List.not_mem_nil,or_false]at hz;subst hz;rfl)|(unfold maxLen;omega)|omega|(simp;omega)|(intro i z hz;rcases i with _|i;(injection hz with hz;subst hz;rw [add0];go_simp);cases hz)|skip
 intro u4 w4 hown hgr _
 have R:=qh (b4x HOW.o HB1.o 3 hown hgr)
 have HX4:=qh (HX.o.below R.o.2)
 have hz4:=R.o.2.size
 clear hown hgr
 obtain⟨va,vc,rfl⟩:=a0i R.o.1
 have HE4:=qh (HE.o.below R.o.2 HE.o.size)
 have HU4:=qh (HU.o.below R.o.2)
 go_upto_if 19 with fail
 go_cut [9] (fun u wx=>(∃a c,u=.slice a (P.next st k).length c)∧OwnK W0.heap.size w4 u (P.next st k)∧w4=wx)
 case first=>
  by_cases hk:k=1024
  ·subst hk;have HN:=qh (show P.next st 1024=(st++[1024]).take (st.length-1) by unfold P.next;rw [if_pos rfl,List.take_append_of_le_length oZ]);have HL:=qh (show (P.next st 1024).length=st.length-1 by rw [HN.o,List.length_take,List.length_append];omega);have i1:((1024:Int)==1024)=true:=rfl;obtain⟨m,hm⟩:∃m,st.length-1=m:=⟨_,rfl⟩;rw [hm]at HN HL;have i2:max (0:Int) ((st.length:Int)+1-2)=(m:Int):=by omega
   have hvc:=(a2b R.o.1 (by rw [List.length_append];simp;omega)).cap;rw [List.length_append]at hvc;simp only [List.length_cons,List.length_nil]at hvc;have i3:m≤vc:=by omega
   have i4:(m:Int)≤(vc:Int):=by omega
   have HR:=qh (show OwnK W0.heap.size w4 (.slice va m vc) (P.next st 1024) by rw [HN.o];exact c2p R.o.1 sZ (by rw [List.length_append];omega));go_wp2;go_meet;exact⟨⟨va,vc,by rw [HL.o]⟩,HR.o,rfl⟩
  ·have i1:(k==1024)=false:=by simpa using hk
   have HN:=qh (show st++[k]=P.next st k by unfold P.next;rw [if_neg hk]);have HR:=qh (show OwnK W0.heap.size w4 (.slice va (st++[k]).length vc) (P.next st k) by rw [←HN.o];exact R.o.1);rw [HN.o]at HR⊢;go_wp2;go_meet;exact⟨⟨_,_,rfl⟩,HR.o,rfl⟩
 case rest=>
  obtain⟨⟨a,c,rfl⟩,ho,rfl⟩:=hcut;have HN:=qh (show P.b2d l (st,t) k=if (P.scr l (P.next st k)).2 then (((P.next st k,(P.scr l (P.next st k)).1),P.least t (P.scr l (P.next st k)).1),true) else ((P.tr0,(0,[])),false) from rfl);have hnl:=P.c5p st k;have hsl:=P.b8h l (P.next st k);generalize P.next st k=nx at *;have HI:=qh (a2b ho oZ);have HO4:=qh ho;obtain⟨⟨_,k0⟩,_,_,_⟩:=HX4.o;clear ho HOW HOW2 HB1 HX1 HST hz1'
  go_wp2_with fail
  refine (a4p _ _ l nx _ HU4.o HI.o hm HE4.o).mono ?_;rintro e w5 ⟨rfl,hb5⟩;generalize P.scr l nx=r at *;obtain⟨r1,r2⟩:=r;simp only at hsl;have HX5:=qh (HX4.o.below hb5);have HB5:=qh (R.o.2.trans (hb5.mono hz4));have HO5:=qh (a0g HO4.o hb5 lZ);have hz5:=hb5.size;clear hb5 k0
  cases r2
  ·obtain⟨_,⟨_,k1,k2,_⟩,⟨_,k3,k4,k7,k8⟩,⟨_,k5,k6,k9,k10⟩⟩:=HX5.o;go_wp2;refine bodyPost_ret (v:=.tuple #[a0r (.slice none 0 0) [],a1c (0,[]),.bool false]) (by simp [a0r,a1c,k3,k4,k5,k6,results,Tryz.results268,go_sem]) rfl ⟨.slice none 0 0,by rw [HN.o];rfl,by rw [HN.o];exact World.ownsRow_nil _ _ _ _,?_⟩;exact (((((HB0.o.trans (HB5.o.mono HB0.o.size)).setCell (by simp<;>omega) _).setCell (by simp<;>omega) _).setCell (by simp<;>omega) _).setCell (by simp<;>omega) _)
  ·obtain⟨_,⟨_,k1,k2,_⟩,_,_⟩:=HX5.o
   go_wp2_with fail
   refine (a8d t r1 _ ht oZ).mono ?_;rintro e w6 ⟨rfl,hb6⟩;have HX6:=qh (HX5.o.below hb6);have HB6:=qh (HB5.o.trans (hb6.mono (Nat.le_trans hz4 hz5)));have HO6:=qh (a0g HO5.o hb6 lZ);clear hb6 k1 k2;obtain⟨_,_,⟨_,k3,k4,k7,k8⟩,⟨_,k5,k6,k9,k10⟩⟩:=HX6.o;have hzz:=HZ0.o;go_wp2;refine bodyPost_ret (v:=.tuple #[a0r (.slice a nx.length c) r1,a1c (P.least t r1),.bool true]) (by simp [a0r,a1c,k3,k4,k5,k6,results,Tryz.results268,go_sem]) rfl ⟨.slice a nx.length c,by rw [HN.o];rfl,?_,?_⟩
   ·rw [HN.o];exact zq115
   ·exact (((((HB0.o.trans (HB6.o.mono HB0.o.size)).setCell (by simp<;>omega) _).setCell (by simp<;>omega) _).setCell (by simp<;>omega) _).setCell (by simp<;>omega) _)
end Go.Proofs.YtggfdnopminemaaGreatDoor
