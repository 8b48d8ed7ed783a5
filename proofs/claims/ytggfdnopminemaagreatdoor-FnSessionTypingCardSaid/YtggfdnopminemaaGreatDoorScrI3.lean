/- Walks: the screen of strokes (program). -/
import Derived.Test.YtggfdnopminemaaGreatDoorZt
import Derived.Test.YtggfdnopminemaaGreatDoorSeg
set_option linter.all false
namespace Go.Proofs.YtggfdnopminemaaGreatDoor
namespace P
theorem b7e {t:Bs} (h:∀b∈t,b≠35):Go.Lib.replaceAll t [35] [61]=t:=by
 have hc:Go.Lib.count t [35]=0:=by
  rw [Go.Lib.count_one];exact List.count_eq_zero.2 fun hm=>h 35 hm rfl
 unfold Go.Lib.replaceAll Go.Lib.replace Go.Lib.replaceNum;rw [if_neg dZ,if_pos (.inl dZ),hc];rfl
theorem b6w {t:Bs} (h:∀b∈t,b≠35):Go.Lib.replaceAll (35::t) [35] [61]=61::t:=by
 have hc:Go.Lib.count (35::t) [35]=1:=by
  rw [Go.Lib.count_one,List.count_cons_self,List.count_eq_zero.2 fun hm=>h 35 hm rfl]
 have hi:Go.Lib.index (35::t) [35]=((0:Nat):Int):=by
  unfold Go.Lib.index;rw [if_pos sZ];rfl
 unfold Go.Lib.replaceAll Go.Lib.replace Go.Lib.replaceNum;rw [if_neg dZ,if_pos (.inl dZ),hc,Go.Lib.replaceK_hit _ _ _ _ _ hi];rfl
theorem b9k (s:Int):Go.Lib.replaceAll (fmt s) [35] [61]=raw s:=by
 obtain⟨t,ht,h⟩:=c7z s;have hl:=fun m=>b6t t m ht
 rcases h with h|h
 ·have hf:fmt s=fmtL (midK s) t:=by unfold fmt;rw [h]
  unfold raw;rw [hf,c1q (hl _),b7e (hl _)]
 ·have hf:fmt s=35::fmtL (midK s) t:=by
   unfold fmt;rw [h]
   conv=>lhs;unfold fmtL
   rfl
  unfold raw;rw [hf,List.map_cons,c1q (hl _),b6w (hl _)];rfl
end P
open Go Go.RowKit
set_option maxHeartbeats 8000000
set_option maxRecDepth 100000
theorem c0a (m:Int) (w:World) (hE:Env w) :
 Calls Tryz.prog 107 #[.string (S (P.fmt m)),.string (S [35]),.string (S [61])] w fun e w'=>e=.returned (.string (S (P.raw m)))∧Below w.heap.size w w':=by
 obtain⟨n,hm⟩:=hE.2
 have hl:=P.a9q m
 have hc:=Lib.countB_mul_le (S [35]) dZ (S (P.fmt m)).size (S (P.fmt m)) lZ
 have hc2:Lib.countB (S (P.fmt m)) (S [35])≤(P.fmt m).length:=by rw [S_size,S_size]at hc;simpa using hc
 refine (Tryz.strings_ReplaceAll (S (P.fmt m)) (S [35]) (S [61]) n w (by rw [S_size];omega) hm dZ (by rw [S_size,S_size];simp;omega)).mono ?_
 rintro e w' ⟨rfl,hb⟩
 rw [S_dataList,S_dataList,S_dataList,P.b9k]
 exact⟨rfl,hb⟩
theorem b7m (l:List (Int×Str)):(a0o l).length=l.length*2:=by
 induction l with
 |nil=>rfl
 |cons a l ih=>
  have e:a0o (a::l)=.int .i64 a.1::.string (S a.2)::a0o l:=rfl;rw [e,List.length_cons,List.length_cons,List.length_cons,ih];omega
theorem b9a {l:List (Int×Str)} {x:Value} (h:x∈a0o l):x.oneCell'=true:=by
 unfold a0o at h;rw [List.mem_flatMap]at h;obtain⟨a,_,h⟩:=h;simp only [List.mem_cons,List.not_mem_nil,or_false]at h
 rcases h with rfl|rfl<;>rfl
theorem b2a (l m:List (Int×Str)):a0o (l++m)=a0o l++a0o m:=by unfold a0o;rw [List.flatMap_append]
theorem b8h {B:Nat} {v:World} {u:Value} {l:List (Int×Str)} (h:a0s B v u l):b5r v 2 u l.length (a0o l):=by
 refine⟨b7m l,fun x hx=>b9a hx,?_⟩
 rcases id h.2 with⟨hv,h0⟩|⟨g,cap,cur,hv,_⟩
 ·exact .inl ⟨hv,h0⟩
 ·have hob:u.ownBlock=some g:=by rw [hv];rfl
  exact .inr ⟨_,cap,hv,fun j x hx=>World.ownsRow.cells h hob j x hx⟩
theorem c5e {w w1 w2:World} {v v':Value} {l m:List (Int×Str)} (hown:a0s w.heap.size w1 v l) (hb:Below w.heap.size w w1)
 (h:w2.ownsRow w.heap.size 177 2 v' (l.length+m.length) (a0o l++a0o m)) (hg:w1.grownBy w2 v.ownBlock) :
 a0s w.heap.size w2 v' (l++m)∧Below w.heap.size w w2:=by
 refine⟨?_,hb.grown hg hb.size (fun k hk=>(World.ownsRow.lt hown k hk).1)⟩
 unfold a0s;rw [b2a,List.length_append];exact h
theorem d0e (sv u:Value) (st:List Int) (l:List P.Pc) (w:World) (hs:IntR w sv st) (hu:PcR w u l) (hsl:P.a1t st=true) (hl:l.length≤60)
 (hp:∀p∈l,∃a k:Nat,a<st.length∧p.1=((a:Int),(k:Int))∧(p.2=[]∨(P.a0p p.2).2=true)) (hE:Env w) :
 Calls Tryz.prog 86 #[sv,u] w (b0h (P.render (P.a1y st l)) w):=by
 obtain⟨i0,hi,hz0,hz1,hz2⟩:=info_parts b2g
 have hba:=(Below.refl w.heap.size w).alloc lZ (.cells #[] 177)
 have HST:=qh hs;have HU:=qh hu;have HSL:=qh hsl;have HP:=qh hp;have HE:=qh hE
 have HOW:=qh (show a0s w.heap.size (w.alloc (.cells #[] 177)) (.slice (some ⟨w.heap.size,0,none⟩) 0 0) [] from World.ownsRow_made _ _ _ lZ dZ (by rfl))
 have HB0:=qh hba
 obtain⟨sd,sc,rfl,_,_⟩:=hs
 obtain⟨ad,cap,rfl,_,_⟩:=hu
 clear hba hsl hp hE
 go_enter Tryz.func86,Tryz.ntmps86
 go_wp2
 go_loopw [6,16] (fun v i wr=>∃j:Nat,j≤l.length∧i=.int .i64 j∧a0s w.heap.size wr v (P.a1y st (l.take j))∧Below w.heap.size w wr) (fun _ i _=>l.length-(intOf i).toNat)
 case atStart=>exact⟨0,Nat.zero_le _,rfl,HOW.o,HB0.o⟩
 case round=>
  clear HOW HB0;obtain⟨j,hj,rfl,hown,hb⟩:=hrel;have HOWN:=qh hown;have HB:=qh hb;obtain⟨va,vc,rfl⟩:=a7h hown;have hal:=P.b1z st (l.take j);rw [List.length_take,Nat.min_eq_left hj]at hal
  by_cases hlt:j<l.length
  ·obtain⟨g,o,hga,hgl,c0,c1,c2⟩:=(HU.o.below hb).at j hlt;obtain⟨a,k,hast,hpk,htx⟩:=HP.o _ (List.getElem_mem hlt);have HSN:=qh (show P.a1y st (l.take (j+1))=P.a1y st (l.take j)++P.a3h st l[j] by rw [a0h l j hlt,P.b7k]);subst hga;generalize l[j]=p at *;obtain⟨⟨p0,p1⟩,tx⟩:=p;simp only [Prod.mk.injEq]at hpk;obtain⟨rfl,rfl⟩:=hpk;simp only at c0 c1 c2 htx;have HTX:=qh htx;have i1:(j:Int)<(l.length:Int):=by omega
   have hbz:=hb.size;have HEW:=qh (HE.o.below hb HE.o.size);obtain⟨at0,hat0⟩:∃x,P.a1y st (l.take j)=x:=⟨_,rfl⟩;rw [hat0]at HOWN HSN hal⊢;clear hb hown htx hat0
   cases tx with
   |nil=>
    obtain⟨m,hm,hms,hmd⟩:=P.b4f HSL.o hast;have HMS:=qh hms;have HPA:=qh (show P.a3h st (((a:Int),(k:Int)),[])=[(1,P.raw (m:Int))] by rw [P.c4e rfl rfl,hmd]);obtain⟨gs,os,hgs,hgsl,cs⟩:=(HST.o.below HB.o).at a hast;rw [hm]at cs;subst hgs;have i2:(a:Int)<(st.length:Int):=by omega
    clear hms hm hmd
    go_wp2_with fail
    refine (a1j m _ HMS.o).mono ?_;rintro e w1 ⟨rfl,hb1⟩;have hbx:Below wr.heap.size wr w1:=(bZ.alloc lZ _).trans (hb1.mono sZ);have HE1:=qh (HEW.o.below hbx HEW.o.size);have HX1:=qh hbx;clear hb1 hbx c0 c1 c2 cs
    go_wp2_with fail
    refine (c0a (m:Int) _ HE1.o).mono ?_;rintro e w2 ⟨rfl,hb2⟩;have HX2:=bt HX1 hb2;have HOW2:=qh (show (w2.alloc (.cells #[.int .i64 1,.string (S (P.raw (m:Int)))] 177)).ownsRow w.heap.size 177 2 (.slice va at0.length vc) at0.length (a0o at0) from (a0k HOWN.o HX2.o lZ).alloc _);have hzw2:w.heap.size≤w2.heap.size:=Nat.le_trans hbz HX2.o.size;have hal2:at0.length≤600:=by omega
    clear hb2;generalize P.raw (m:Int)=rw' at *
    go_wp2_with (at_builtin;refine wpList_append_own _ rfl _ _ 171 rfl w.heap.size 177 i0 (.agg #[.int .i64 0,.string ⟨#[]⟩]) 2 24 Tryz.underlying171 hi hz0 hz1 hz2 rfl dZ _ at0.length (a0o at0) rfl HOW2.o ⟨w2.heap.size,0,none⟩ 1 1 [.int .i64 1,.string (S rw')] rfl rfl ?_ ?_ ?_ ?_ ?_ ?_)
    all_goals first|exact⟨rfl,rfl⟩|(intro z hz;simp only [List.mem_cons,List.not_mem_nil,or_false]at hz;rcases hz with rfl|rfl<;>rfl)|(unfold maxLen;omega)|omega|(simp;omega)|(intro i z hz;rcases i with _|_|i;(injection hz with hz;subst hz;rw [add0];go_simp);(injection hz with hz;subst hz;go_simp);cases hz)|skip
    intro v' w3 hown' hgrow _;have R:=qh (b7x (x:=(1,rw')) (w1:=w2) (o:=(.cells #[.int .i64 1,.string (S rw')] 177)) (v:=.slice va at0.length vc) hzw2 (a0k HOWN.o HX2.o lZ) (HB.o.trans (HX2.o.mono hbz)) hown' hgrow);exact zq43
   |cons x tl=>
    have hok:(P.a0p (x::tl)).2=true:=HTX.o.resolve_left sZ;have hl60:=P.b1h hok;have HOK:=qh hok;have HPA:=qh (show P.a3h st (((a:Int),(k:Int)),x::tl)=(P.a0p (x::tl)).1 from P.b2p sZ);have hne:((x::tl:Str) != [])=true:=rfl;have hne2:((x::tl:Str)==[])=false:=rfl;have hne3:¬(x::tl:Str)=[]:=by simp
    generalize x::tl=tx at *;clear hok
    go_wp2_with fail
    refine (a3l tx _ oZ (HEW.o.alloc _)).mono ?_;rintro e w1 ⟨pv,rfl,hpo,hb1⟩;have hpo':=hpo HOK.o;rw [HOK.o];have hbx:Below wr.heap.size wr w1:=(bZ.alloc lZ _).trans (hb1.mono sZ);have HX1:=qh hbx;have HSRC:=qh (b8h hpo');have hml:=P.b4b tx;have HOW1:=qh (a0k HOWN.o hbx lZ);obtain⟨ma,mc,rfl⟩:=a7h hpo';have hz1':w.heap.size≤w1.heap.size:=Nat.le_trans hbz hbx.size;have hal2:at0.length≤600:=by omega
    clear hb1 hbx hpo hpo' c0 c1 c2;generalize (P.a0p tx).1=ma1 at *
    go_wp2_with (at_builtin;refine a0z rfl _ _ 171 rfl w.heap.size 177 i0 (.agg #[.int .i64 0,.string ⟨#[]⟩]) 2 24 Tryz.underlying171 hi hz0 hz1 hz2 rfl dZ _ at0.length (a0o at0) rfl HOW1.o _ ma1.length (a0o ma1) rfl HSRC.o ?_ ?_ ?_ ?_)
    ·unfold maxLen;omega
    ·omega
    ·exact hz1'
    intro v' w3 hown' hgrow _;have R:=qh (c5e HOW1.o (HB.o.trans (HX1.o.mono hbz)) hown' hgrow);exact zq43
  ·have hjl:j=l.length:=by omega
   have hsum:(P.a1y st (l.take j)).length≤600:=by omega
   have HTE:=qh (show l.take j=l from List.take_of_length_le oZ);rw [HTE.o]at HOWN hsum;rw [HTE.o];have i1:¬(j:Int)<(l.length:Int):=by omega
   have HAT:=qh (show ∀x∈P.a1y st l,x.2.length≤2^29 from fun x hx=>P.b7d HP.o x hx);clear hown hb hal
   go_wp2_with fail
   refine (c0o _ _ _ (b3j HOWN.o) hsum HAT.o).mono ?_;rintro e w2 ⟨rfl,hb2⟩;have HB2:=bt HB hb2;clear hb2;go_wp2;go_ret2;exact⟨rfl,HB2.o⟩
theorem a3c (dv sv:Value) (l:P.Dic) (st:List Int) (w:World) (hu:EntR w dv l) (hs:IntR w sv st) (hm:Small l) (hE:Env w) :
 Calls Tryz.prog 26 #[.agg #[dv],sv] w (b0h (P.scr l st) w):=by
 have hb0:Below w.heap.size w (w.alloc (.cells #[dv] 26)):=bZ.alloc lZ _
 have HU:=qh (hu.below hb0);have HST:=qh (hs.below hb0);have HB0:=qh hb0;have HE:=qh (hE.below hb0 hE.size)
 have HX:=qh (DBx.new dv 26 w)
 clear hb0
 obtain⟨ad,cap,rfl,_,_⟩:=hu
 obtain⟨sd,sc,rfl,_,_⟩:=hs
 go_enter Tryz.func26,Tryz.ntmps26
 go_wp2_with fail
 refine (c5p _ _ l st _ HU.o HST.o hm HE.o).mono ?_
 rintro e w1 ⟨rfl,hb⟩
 have HB1:=bt HB0 hb;have HST1:=qh (HST.o.below hb);have HU1:=qh (HU.o.below hb);have HX1:=qh (HX.o.below hb);have HE1:=qh (HE.o.below hb HE.o.size)
 clear hb
 obtain⟨q,hq⟩:∃q,(P.dic l&&P.a1t st)=q:=⟨_,rfl⟩
 have HQ:=qh hq
 rw [hq]
 clear hq
 cases q
 ·go_wp2;go_ret2;have h:P.scr l st=([],false):=by unfold P.scr;rw [HQ.o];rfl
  exact⟨by rw [h];rfl,HB1.o⟩
 ·have HD:=qh (show P.dic l=true∧P.a1t st=true by have h:=HQ.o;simpa only [Bool.and_eq_true] using h);have hl60:=P.a4f HD.o.2;obtain⟨k0,_⟩:=HX1.o
  go_wp2_with fail
  refine (c6p _ _ l st _ HU1.o HST1.o hl60).mono ?_;rintro e w2 ⟨u,rfl,hp,hb⟩;have HB2:=bt HB1 hb;have HP:=qh hp;have HST2:=qh (HST1.o.below hb);have HE2:=qh (HE1.o.below hb HE1.o.size);obtain⟨ua,uc,rfl,_,_⟩:=hp;clear hb
  go_wp2_with fail
  refine (d0e _ _ st (P.segA l st) _ HST2.o HP.o HD.o.2 (Nat.le_trans (P.c2w l st) hl60) (fun p hp=>P.c9o HD.o.1 hp) HE2.o).mono ?_;rintro e w3 ⟨rfl,hb3⟩;have HB3:=bt HB2 hb3;clear hb3;have HS:=qh (show P.scr l st=P.render (P.a1y st (P.segA l st)) by unfold P.scr;rw [HQ.o];rfl);go_wp2;go_ret2;exact⟨by rw [HS.o];rfl,HB3.o⟩
def EdPost (x:P.Edit) (w:World) (e:Ending) (w':World):Prop:=e=.returned (.agg #[.int .i64 x.1,.string (S x.2)])∧Below w.heap.size w w'
theorem a6x (a b:Str) (w:World) (ha:a.length≤2^30) (hb:b.length≤2^30) :
 Calls Tryz.prog 208 #[.string (S a),.string (S b)] w (EdPost (P.least a b) w):=by
 go_enter Tryz.func208,Tryz.ntmps208
 go_wp2
 go_loopw [5] (fun i wr=>∃j:Nat,j≤a.length∧j≤b.length∧i=.int .i64 j∧a.take j=b.take j∧∃n,wr=(w.alloc (.cells #[.int .i64 0,.string (S [])] 55)).drewN n) (fun i _=>a.length-(intOf i).toNat)
 case atStart=>exact⟨0,Nat.zero_le _,Nat.zero_le _,rfl,rfl,0,rfl⟩
 case round=>
  obtain⟨j,hj,hk,rfl,hpre,n,rfl⟩:=hrel;have HPRE:=qh hpre;have HSB:=qh (show (a.length-j:Nat)=(a.length:Int)-(j:Int) by omega);clear hpre
  by_cases h1:j<a.length
  ·have i1:(j:Int)<(a.length:Int):=by omega
   by_cases h2:j<b.length
   ·have i2:(j:Int)<(b.length:Int):=by omega
    by_cases h3:a[j]=b[j]
    ·have f3:((((a[j]'h1).toNat:Nat):Int)==(((b[j]'h2).toNat:Nat):Int))=true:=by rw [h3];simp
     have HT:=qh (show a.take (j+1)=b.take (j+1) by rw [a0h a j h1,a0h b j h2,HPRE.o,h3])
     go_wp2_with fail
     go_quiet (fail)
     go_wp2
     go_roundw
     case rel=>exact⟨j+1,by omega,by omega,by go_num,HT.o,_,rfl⟩
     case measure=>simp [intOf];omega
    ·have f3:((((a[j]'h1).toNat:Nat):Int)==(((b[j]'h2).toNat:Nat):Int))=false:=by
      rw [beq_eq_false_iff_ne];intro h;exact h3 (UInt8.toNat_inj.1 oZ)
     have HL:=qh (P.c1n j a b HPRE.o oZ oZ (.inr (.inr ⟨h1,h2,h3⟩)));exact zq17
   ·have i2:¬(j:Int)<(b.length:Int):=by omega
    have HL:=qh (P.c1n j a b HPRE.o oZ oZ (.inr (.inl oZ)));exact zq17
  ·have i1:¬(j:Int)<(a.length:Int):=by omega
   have HL:=qh (P.c1n j a b HPRE.o oZ oZ (.inl oZ));exact zq17
section
abbrev a1v (u:Value) (sc:Str):Value:=.agg #[u,.string (S sc)]
abbrev logV (d p:Str) (n:Int):Value:=.agg #[.string (S d),.string (S p),.int .i64 n]
abbrev a7w (u us:Value) (sc d p:Str) (n:Int):Value:=.agg #[u,us,.string (S sc),.string (S d),.string (S p),.int .i64 n]
def SBox (b:Nat) (u us:Value) (sc d p:Str) (n:Int) (v:World):Prop:=
 v.cell? ⟨b,0,none⟩=some u∧v.cell? ⟨b,1,none⟩=some us∧v.cell? ⟨b,2,none⟩=some (.string (S sc))∧v.cell? ⟨b,3,none⟩=some (.string (S d))∧v.cell? ⟨b,4,none⟩=some (.string (S p))∧v.cell? ⟨b,5,none⟩=some (.int .i64 n)∧b<v.heap.size
theorem SBox.a0c {b:Nat} {u us:Value} {sc d p:Str} {n:Int} {v v':World} {X:Blk} (h:SBox b u us sc d p n v) (hc:Chg X v v') (hX:¬X b):SBox b u us sc d p n v':=by
 obtain⟨h0,h1,h2,h3,h4,h5,h6⟩:=h;exact⟨(hc.cell (p:=⟨b,0,none⟩) h6 hX).trans h0,(hc.cell (p:=⟨b,1,none⟩) h6 hX).trans h1,(hc.cell (p:=⟨b,2,none⟩) h6 hX).trans h2,(hc.cell (p:=⟨b,3,none⟩) h6 hX).trans h3,(hc.cell (p:=⟨b,4,none⟩) h6 hX).trans h4,(hc.cell (p:=⟨b,5,none⟩) h6 hX).trans h5,Nat.lt_of_lt_of_le h6 hc.size⟩
theorem SBox.below {b:Nat} {u us:Value} {sc d p:Str} {n:Int} {v v':World} (h:SBox b u us sc d p n v) (hb:Below v.heap.size v v'):SBox b u us sc d p n v':=
 h.a0c (Below.chg hb fun _=>False) fun h=>h
abbrev a0r (u us:Value) (sc d p:Str) (n:Int):Obj:=.cells #[u,us,.string (S sc),.string (S d),.string (S p),.int .i64 n] 37
theorem SBox.new (u us:Value) (sc d p:Str) (n:Int) (v:World):SBox v.heap.size u us sc d p n (v.alloc (a0r u us sc d p n)):=by
 refine⟨?_,?_,?_,?_,?_,?_,by simp⟩<;>go_simp
end
section
def d0g (l:P.Dic) (w:World) (e:Ending) (w':World):Prop:=
 ∃u,e=.returned (.tuple #[a7w u (.slice none 0 0) [] [] [] 0,.bool (P.dic l)])∧Ents w' (Bet w.heap.size w'.heap.size) u (P.kept (P.dic l) l)∧Below w.heap.size w w'
def NBox (W:Nat) (dv:Value) (v:World):Prop:=
 v.cell? ⟨W,0,none⟩=some dv∧SBox (W+1) (.slice none 0 0) (.slice none 0 0) [] [] [] 0 v∧(∀o,v.frozen? ⟨W+1,o,none⟩=false)
theorem NBox.step {W:Nat} {dv:Value} {v v':World} (h:NBox W dv v) (hb:Below v.heap.size v v'):NBox W dv v':=by
 obtain⟨h1,h2,h3⟩:=h;have hz:=h2.2.2.2.2.2.2;exact⟨(hb.cell (p:=⟨W,0,none⟩) (by show W<_;omega)).trans h1,h2.below hb,fun o=>(hb.frozen (p:=⟨W+1,o,none⟩) hz).trans (h3 o)⟩
theorem NBox.new (dv:Value) (v:World) (t:TypeId):NBox v.heap.size dv ((v.alloc (.cells #[dv] t)).alloc (a0r (.slice none 0 0) (.slice none 0 0) [] [] [] 0)):=by
 refine⟨by go_simp,?_,fun o=>?_⟩
 ·have:=SBox.new (.slice none 0 0) (.slice none 0 0) [] [] [] 0 (v.alloc (.cells #[dv] t))
  simpa using this
 ·simp
theorem b2m (dv:Value) (l:P.Dic) (w:World) (hu:EntR w dv l) (hs:Small l) (hE:Env w) :
 Calls Tryz.prog 15 #[.agg #[dv]] w (d0g l w):=by
 have hb0:Below w.heap.size w ((w.alloc (.cells #[dv] 26)).alloc (a0r (.slice none 0 0) (.slice none 0 0) [] [] [] 0)):=((Below.refl w.heap.size w).alloc lZ _).alloc sZ _
 have HU:=qh (hu.below hb0)
 have HB0:=qh hb0;clear hb0
 have HN:=qh (NBox.new dv w 26)
 have HSM:=qh hs;clear hs
 have HE:=qh ((hE.alloc (.cells #[dv] 26)).alloc (a0r (.slice none 0 0) (.slice none 0 0) [] [] [] 0));clear hE
 obtain⟨ad,cap,rfl,_,_⟩:=hu
 go_enter Tryz.func15,Tryz.ntmps15
 go_wp2_with fail
 refine (a0v _ l _ HU.o HSM.o.texts HE.o).mono ?_
 rintro e w1 ⟨rfl,hb⟩
 have HU1:=qh (HU.o.below hb)
 have HN1:=qh (HN.o.step hb)
 have hz1:w.heap.size+2≤w1.heap.size:=by have:=hb.size;simp at this;omega
 have HB1:=qh (HB0.o.trans (hb.mono (by simp;omega)))
 clear hb HU HB0 HN
 obtain⟨a0,⟨b0,b1,b2,b3,b4,b5,_⟩,f⟩:=HN1.o
 have f0:=f 0;have f1:=f 1;have f2:=f 2;have f3:=f 3;have f4:=f 4;have f5:=f 5
 clear f
 cases hd:P.dic l
 ·have HD:=qh hd;clear hd;clear a0;go_wp2;refine bodyPost_ret (v:=.tuple #[a7w (.slice none 0 0) (.slice none 0 0) [] [] [] 0,.bool false]) (by simp [results,Tryz.results15,go_sem,b0,b1,b2,b3,b4,b5]) rfl ⟨_,by rw [HD.o],?_,?_⟩
  ·rw [HD.o];exact RowO.nil _ _
  ·exact (((((HB1.o.setCell sZ _).setCell sZ _).setCell sZ _).setCell sZ _).setCell sZ _).setCell sZ _
 ·have HUP:=qh (P.c9h hd);have HD:=qh hd;clear hd;clear b0 b1 b2 b3 b4 b5 f0 f1 f2 f3 f4 f5
  go_wp2_with fail
  refine (a6w _ l _ HU1.o HUP.o HSM.o.len HSM.o.outs).mono ?_;rintro e w2 ⟨u,rfl,hI,hb⟩;have HN2:=qh (HN1.o.step hb);have HI:=qh hI;have HB2:=bt HB1 hb;obtain⟨ud,uc,rfl,_,_⟩:=hI;clear hb HN1 HU1 HB1 a0;obtain⟨a0,⟨b0,b1,b2,b3,b4,b5,_⟩,f⟩:=HN2.o;have f0:=f 0;have f1:=f 1;have f2:=f 2;have f3:=f 3;have f4:=f 4;have f5:=f 5;clear f a0;go_wp2;refine bodyPost_ret (v:=.tuple #[a7w (.slice ud l.length uc) (.slice none 0 0) [] [] [] 0,.bool true]) (by simp [results,Tryz.results15,go_sem,b0,b1,b2,b3,b4,b5]) rfl ⟨_,by rw [HD.o],?_,?_⟩
  ·rw [HD.o]
   show Ents _ _ _ l
   refine (HI.o.a0c (X:=fun b=>b=w.heap.size+1) a0e ((((((((Chg.refl _ w2).setCell ?_ _).setCell ?_ _).setCell ?_ _).setCell ?_ _).setCell ?_ _).setCell ?_ _)) ?_).wide ?_ ?_
   all_goals first|rfl|skip
   ·intro b hb;have:=hb.1;omega
   ·intro b hb;have h1:=hb.1;have h2:=hb.2;exact⟨by omega,by simp [World.setCell];exact h2⟩
   ·intro b hb;exact hb.2
  ·exact (((((HB2.o.setCell sZ _).setCell sZ _).setCell sZ _).setCell sZ _).setCell sZ _).setCell sZ _
end
theorem has (u:Value) (l:List Int) (x:Int) (w:World) (hu:IntR w u l) :
 Calls Tryz.prog 183 #[u,.int .i64 x] w fun e w'=>e=.returned (.bool (l.contains x))∧w'=w:=by
 obtain⟨ad,cap,rfl,⟨hl,hc⟩,hn,h3⟩:=hu
 have HC:=qh (show Calls Tryz.prog 246 #[.slice ad l.length cap,.int .i64 x] w fun e w'=>e=.returned (.bool (l.contains x))∧w'=w by
  rcases h3 with rfl|⟨g,o,rfl,hg,hcell⟩
  ·exact Tryz.slices_Contains_int_empty ad cap x w
  ·have h:=Tryz.slices_Contains_int g o l.length cap l x w lZ oZ (fun j hj=>by rw [hcell j hj];simp [hj]);rw [List.take_length]at h;exact h)
 clear h3 hn
 obtain⟨q,hq⟩:∃q,l.contains x=q:=⟨_,rfl⟩
 rw [hq]at HC⊢
 clear hq
 go_enter Tryz.func183,Tryz.ntmps183
 go_wp2_with fail
 refine HC.o.mono ?_
 rintro e w' ⟨rfl,rfl⟩
 go_wp2
 go_ret
 exact⟨rfl,rfl⟩
def TBx (b:Nat) (u:Value) (t:Str) (v:World):Prop:=b<v.heap.size∧v.cell? ⟨b,0,none⟩=some u∧v.cell? ⟨b,1,none⟩=some (.string (S t))∧v.frozen? ⟨b,0,none⟩=false∧v.frozen? ⟨b,1,none⟩=false
theorem TBx.below {b:Nat} {u:Value} {t:Str} {v v':World} (h:TBx b u t v) (hb:Below v.heap.size v v'):TBx b u t v':=by
 exact zq37
theorem TBx.new (u:Value) (t:Str) (v:World):TBx v.heap.size u t (v.alloc (.cells #[u,.string (S t)] 35)):=⟨by simp,by go_simp,by go_simp,by go_simp,by go_simp⟩
theorem a1x (dv sv:Value) (l:P.Dic) (st:List Int) (t:Str) (w:World) (hu:EntR w dv l) (hs:IntR w sv st) (hm:Small l) (hE:Env w) :
 Calls Tryz.prog 106 #[.agg #[dv],a1v sv t] w fun e w'=>e=.returned (.bool (P.trans l (st,t)))∧Below w.heap.size w w':=by
 have hb0:Below w.heap.size w ((w.alloc (.cells #[dv] 26)).alloc (.cells #[sv,.string (S t)] 35)):=((Below.refl w.heap.size w).alloc lZ _).alloc sZ _
 have HU:=qh (hu.below hb0);have HST:=qh (hs.below hb0);have HB0:=qh hb0;have HE:=qh (hE.below hb0 hE.size)
 have HX:=qh (show TBx (w.heap.size+1) sv t ((w.alloc (.cells #[dv] 26)).alloc (.cells #[sv,.string (S t)] 35)) by simpa using TBx.new sv t (w.alloc (.cells #[dv] 26)))
 clear hb0
 obtain⟨ad,cap,rfl,_,_⟩:=hu
 obtain⟨sd,sc,rfl,_,_⟩:=hs
 unfold a1v
 go_enter Tryz.func106,Tryz.ntmps106
 go_wp2_with fail
 refine (a3c _ _ l st _ HU.o HST.o hm HE.o).mono ?_
 rintro e w1 ⟨rfl,hb⟩
 have HB1:=bt HB0 hb;have HST1:=qh (HST.o.below hb);have HX1:=qh (HX.o.below hb)
 have HP:=qh (show P.trans l (st,t)=((P.scr l st).2&&((P.scr l st).1==t&&!st.contains 1024)) from rfl)
 clear hb
 generalize P.scr l st=r at *
 obtain⟨r1,r2⟩:=r
 obtain⟨k0,k1,k2,_⟩:=HX1.o
 cases r2
 ·go_wp2;go_ret;exact⟨by rw [HP.o];rfl,HB1.o⟩
 ·by_cases h:r1=t
  ·subst h
   go_wp2_with fail
   refine (has _ st 1024 _ HST1.o).mono ?_;rintro e w2 ⟨rfl,rfl⟩;obtain⟨q,hq⟩:∃q,st.contains 1024=q:=⟨_,rfl⟩;rw [hq]at HP⊢;clear hq;go_wp2;go_ret;exact⟨by rw [HP.o];simp,HB1.o⟩
  ·have f1:¬S r1=S t:=fun hx=>h (S_inj hx);have f2:decide (S r1=S t)=false:=decide_eq_false f1;go_wp2;go_ret;exact⟨by rw [HP.o];simp [h],HB1.o⟩
end Go.Proofs.YtggfdnopminemaaGreatDoor
