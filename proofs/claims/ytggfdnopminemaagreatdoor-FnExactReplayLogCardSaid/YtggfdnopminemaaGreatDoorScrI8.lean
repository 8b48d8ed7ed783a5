/- Walks: the screen of strokes (program). -/
import Derived.Test.YtggfdnopminemaaGreatDoorZt
import Derived.Test.YtggfdnopminemaaGreatDoorSeg
namespace Go.Proofs.YtggfdnopminemaaGreatDoor
namespace P
theorem replace_none {t:Bs} (h:∀b∈t,b≠35):Go.Lib.replaceAll t [35] [61]=t:=by
 have hc:Go.Lib.count t [35]=0:=by
  rw [Go.Lib.count_one];exact List.count_eq_zero.2 fun hm=>h 35 hm rfl
 unfold Go.Lib.replaceAll Go.Lib.replace Go.Lib.replaceNum;rw [if_neg dZ,if_pos (.inl dZ),hc];rfl
theorem replace_head {t:Bs} (h:∀b∈t,b≠35):Go.Lib.replaceAll (35::t) [35] [61]=61::t:=by
 have hc:Go.Lib.count (35::t) [35]=1:=by
  rw [Go.Lib.count_one,List.count_cons_self,List.count_eq_zero.2 fun hm=>h 35 hm rfl]
 have hi:Go.Lib.index (35::t) [35]=((0:Nat):Int):=by
  unfold Go.Lib.index;rw [if_pos sZ];rfl
 unfold Go.Lib.replaceAll Go.Lib.replace Go.Lib.replaceNum;rw [if_neg dZ,if_pos (.inl dZ),hc,Go.Lib.replaceK_hit _ _ _ _ _ hi];rfl
theorem replace_fmt (s:Int):Go.Lib.replaceAll (fmt s) [35] [61]=raw s:=by
 obtain⟨t,ht,h⟩:=keys_head s;have hl:=fun m=>fmtL_hash t m ht
 rcases h with h|h
 ·have hf:fmt s=fmtL (midK s) t:=by unfold fmt;rw [h]
  unfold raw;rw [hf,map_hash (hl _),replace_none (hl _)]
 ·have hf:fmt s=35::fmtL (midK s) t:=by
   unfold fmt;rw [h]
   conv=>lhs;unfold fmtL
   rfl
  unfold raw;rw [hf,List.map_cons,map_hash (hl _),replace_head (hl _)];rfl
end P
open Go Go.RowKit
set_option maxHeartbeats 4000000
set_option maxRecDepth 100000
theorem replaceHash (m:Int) (w:World) (hE:Env w) :
 Calls Tryz.prog 107 #[.string (S (P.fmt m)),.string (S [35]),.string (S [61])] w fun e w'=>e=.returned (.string (S (P.raw m)))∧Below w.heap.size w w':=by
 obtain⟨n,hm⟩:=hE.2
 have hl:=P.fmt_len m
 have hc:=Lib.countB_mul_le (S [35]) dZ (S (P.fmt m)).size (S (P.fmt m)) lZ
 have hc2:Lib.countB (S (P.fmt m)) (S [35])≤(P.fmt m).length:=by rw [S_size,S_size]at hc;simpa using hc
 refine (Tryz.strings_ReplaceAll (S (P.fmt m)) (S [35]) (S [61]) n w (by rw [S_size];omega) hm dZ (by rw [S_size,S_size];simp;omega)).mono ?_
 rintro e w' ⟨rfl,hb⟩
 rw [S_dataList,S_dataList,S_dataList,P.replace_fmt]
 exact⟨rfl,hb⟩
theorem atomVals_len (l:List (Int×Str)):(atomVals l).length=l.length*2:=by
 induction l with
 |nil=>rfl
 |cons a l ih=>
  have e:atomVals (a::l)=.int .i64 a.1::.string (S a.2)::atomVals l:=rfl;rw [e,List.length_cons,List.length_cons,List.length_cons,ih];omega
theorem atomVals_one {l:List (Int×Str)} {x:Value} (h:x∈atomVals l):x.oneCell'=true:=by
 unfold atomVals at h;rw [List.mem_flatMap]at h;obtain⟨a,_,h⟩:=h;simp only [List.mem_cons,List.not_mem_nil,or_false]at h
 rcases h with rfl|rfl<;>rfl
theorem atomVals_append (l m:List (Int×Str)):atomVals (l++m)=atomVals l++atomVals m:=by unfold atomVals;rw [List.flatMap_append]
theorem src_of_atoms {B:Nat} {v:World} {u:Value} {l:List (Int×Str)} (h:OwnAtoms B v u l):SrcIs v 2 u l.length (atomVals l):=by
 refine⟨atomVals_len l,fun x hx=>atomVals_one hx,?_⟩
 rcases id h.2 with⟨hv,h0⟩|⟨g,cap,cur,hv,_⟩
 ·exact .inl ⟨hv,h0⟩
 ·have hob:u.ownBlock=some g:=by rw [hv];rfl
  exact .inr ⟨_,cap,hv,fun j x hx=>World.ownsRow.cells h hob j x hx⟩
theorem atoms_more {w w1 w2:World} {v v':Value} {l m:List (Int×Str)} (hown:OwnAtoms w.heap.size w1 v l) (hb:Below w.heap.size w w1)
 (h:w2.ownsRow w.heap.size 177 2 v' (l.length+m.length) (atomVals l++atomVals m)) (hg:w1.grownBy w2 v.ownBlock) :
 OwnAtoms w.heap.size w2 v' (l++m)∧Below w.heap.size w w2:=by
 refine⟨?_,hb.grown hg hb.size (fun k hk=>(World.ownsRow.lt hown k hk).1)⟩
 unfold OwnAtoms;rw [atomVals_append,List.length_append];exact h
theorem screenOf (sv u:Value) (st:List Int) (l:List P.Pc) (w:World) (hs:IntR w sv st) (hu:PcR w u l) (hsl:P.slist st=true) (hl:l.length≤60)
 (hp:∀p∈l,∃a k:Nat,a<st.length∧p.1=((a:Int),(k:Int))∧(p.2=[]∨(P.transS p.2).2=true)) (hE:Env w) :
 Calls Tryz.prog 86 #[sv,u] w (RenPost (P.render (P.atomsOf st l)) w):=by
 obtain⟨i0,hi,hz0,hz1,hz2⟩:=info_parts info_atom
 have hba:=(Below.refl w.heap.size w).alloc lZ (.cells #[] 177)
 have HST:=qh hs;have HU:=qh hu;have HSL:=qh hsl;have HP:=qh hp;have HE:=qh hE
 have HOW:=qh (show OwnAtoms w.heap.size (w.alloc (.cells #[] 177)) (.slice (some ⟨w.heap.size,0,none⟩) 0 0) [] from World.ownsRow_made _ _ _ lZ dZ (by rfl))
 have HB0:=qh hba
 obtain⟨sd,sc,rfl,_,_⟩:=hs
 obtain⟨ad,cap,rfl,_,_⟩:=hu
 clear hba hsl hp hE
 go_enter Tryz.func86,Tryz.ntmps86
 go_wp2
 go_loopw [6,16] (fun v i wr=>∃j:Nat,j≤l.length∧i=.int .i64 j∧OwnAtoms w.heap.size wr v (P.atomsOf st (l.take j))∧Below w.heap.size w wr) (fun _ i _=>l.length-(intOf i).toNat)
 case atStart=>exact⟨0,Nat.zero_le _,rfl,HOW.o,HB0.o⟩
 case round=>
  clear HOW HB0;obtain⟨j,hj,rfl,hown,hb⟩:=hrel;have HOWN:=qh hown;have HB:=qh hb;obtain⟨va,vc,rfl⟩:=own_lenA hown;have hal:=P.atomsOf_len st (l.take j);rw [List.length_take,Nat.min_eq_left hj]at hal
  by_cases hlt:j<l.length
  ·obtain⟨g,o,hga,hgl,c0,c1,c2⟩:=(HU.o.below hb).at j hlt;obtain⟨a,k,hast,hpk,htx⟩:=HP.o _ (List.getElem_mem hlt);have HSN:=qh (show P.atomsOf st (l.take (j+1))=P.atomsOf st (l.take j)++P.pcAtoms st l[j] by rw [take_snoc l j hlt,P.atomsOf_snoc]);subst hga;generalize l[j]=p at *;obtain⟨⟨p0,p1⟩,tx⟩:=p;simp only [Prod.mk.injEq]at hpk;obtain⟨rfl,rfl⟩:=hpk;simp only at c0 c1 c2 htx;have HTX:=qh htx;have i1:(j:Int)<(l.length:Int):=by omega
   have hbz:=hb.size;have HEW:=qh (HE.o.below hb HE.o.size);obtain⟨at0,hat0⟩:∃x,P.atomsOf st (l.take j)=x:=⟨_,rfl⟩;rw [hat0]at HOWN HSN hal⊢;clear hb hown htx hat0
   cases tx with
   |nil=>
    obtain⟨m,hm,hms,hmd⟩:=P.stroke_nat HSL.o hast;have HMS:=qh hms;have HPA:=qh (show P.pcAtoms st (((a:Int),(k:Int)),[])=[(1,P.raw (m:Int))] by rw [P.atoms_word rfl rfl,hmd]);obtain⟨gs,os,hgs,hgsl,cs⟩:=(HST.o.below HB.o).at a hast;rw [hm]at cs;subst hgs;have i2:(a:Int)<(st.length:Int):=by omega
    clear hms hm hmd
    go_wp2_with fail
    refine (impl_formatStroke m _ HMS.o).mono ?_;rintro e w1 ⟨rfl,hb1⟩;have hbx:Below wr.heap.size wr w1:=(bZ.alloc lZ _).trans (hb1.mono sZ);have HE1:=qh (HEW.o.below hbx HEW.o.size);have HX1:=qh hbx;clear hb1 hbx c0 c1 c2 cs
    go_wp2_with fail
    refine (replaceHash (m:Int) _ HE1.o).mono ?_;rintro e w2 ⟨rfl,hb2⟩;have HX2:=bt HX1 hb2;have HOW2:=qh (show (w2.alloc (.cells #[.int .i64 1,.string (S (P.raw (m:Int)))] 177)).ownsRow w.heap.size 177 2 (.slice va at0.length vc) at0.length (atomVals at0) from (own_kept HOWN.o HX2.o lZ).alloc _);have hzw2:w.heap.size≤w2.heap.size:=Nat.le_trans hbz HX2.o.size;have hal2:at0.length≤600:=by omega
    clear hb2;generalize P.raw (m:Int)=rw' at *
    go_wp2_with (at_builtin;refine wpList_append_own _ rfl _ _ 171 rfl w.heap.size 177 i0 (.agg #[.int .i64 0,.string ⟨#[]⟩]) 2 24 Tryz.underlying171 hi hz0 hz1 hz2 rfl dZ _ at0.length (atomVals at0) rfl HOW2.o ⟨w2.heap.size,0,none⟩ 1 1 [.int .i64 1,.string (S rw')] rfl rfl ?_ ?_ ?_ ?_ ?_ ?_)
    all_goals first|exact⟨rfl,rfl⟩|(intro z hz;simp only [List.mem_cons,List.not_mem_nil,or_false]at hz;rcases hz with rfl|rfl<;>rfl)|(unfold maxLen;omega)|omega|(simp;omega)|(intro i z hz;rcases i with _|_|i;(injection hz with hz;subst hz;rw [add0];go_simp);(injection hz with hz;subst hz;go_simp);cases hz)|skip
    intro v' w3 hown' hgrow _;have R:=qh (atoms_rel (x:=(1,rw')) (w1:=w2) (o:=(.cells #[.int .i64 1,.string (S rw')] 177)) (v:=.slice va at0.length vc) hzw2 (own_kept HOWN.o HX2.o lZ) (HB.o.trans (HX2.o.mono hbz)) hown' hgrow);exact zq111
   |cons x tl=>
    have hok:(P.transS (x::tl)).2=true:=HTX.o.resolve_left sZ;have hl60:=P.trans_len60 hok;have HOK:=qh hok;have HPA:=qh (show P.pcAtoms st (((a:Int),(k:Int)),x::tl)=(P.transS (x::tl)).1 from P.atoms_trans sZ);have hne:((x::tl:Str) != [])=true:=rfl;have hne2:((x::tl:Str)==[])=false:=rfl;have hne3:¬(x::tl:Str)=[]:=by simp
    generalize x::tl=tx at *;clear hok
    go_wp2_with fail
    refine (impl_parseTranslation tx _ oZ (HEW.o.alloc _)).mono ?_;rintro e w1 ⟨pv,rfl,hpo,hb1⟩;have hpo':=hpo HOK.o;rw [HOK.o];have hbx:Below wr.heap.size wr w1:=(bZ.alloc lZ _).trans (hb1.mono sZ);have HX1:=qh hbx;have HSRC:=qh (src_of_atoms hpo');have hml:=P.transS_len tx;have HOW1:=qh (own_kept HOWN.o hbx lZ);obtain⟨ma,mc,rfl⟩:=own_lenA hpo';have hz1':w.heap.size≤w1.heap.size:=Nat.le_trans hbz hbx.size;have hal2:at0.length≤600:=by omega
    clear hb1 hbx hpo hpo' c0 c1 c2;generalize (P.transS tx).1=ma1 at *
    go_wp2_with (at_builtin;refine wpList_append_src rfl _ _ 171 rfl w.heap.size 177 i0 (.agg #[.int .i64 0,.string ⟨#[]⟩]) 2 24 Tryz.underlying171 hi hz0 hz1 hz2 rfl dZ _ at0.length (atomVals at0) rfl HOW1.o _ ma1.length (atomVals ma1) rfl HSRC.o ?_ ?_ ?_ ?_)
    ·unfold maxLen;omega
    ·omega
    ·exact hz1'
    intro v' w3 hown' hgrow _;have R:=qh (atoms_more HOW1.o (HB.o.trans (HX1.o.mono hbz)) hown' hgrow);exact zq111
  ·have hjl:j=l.length:=by omega
   have hsum:(P.atomsOf st (l.take j)).length≤600:=by omega
   have HTE:=qh (show l.take j=l from List.take_of_length_le oZ);rw [HTE.o]at HOWN hsum;rw [HTE.o];have i1:¬(j:Int)<(l.length:Int):=by omega
   have HAT:=qh (show ∀x∈P.atomsOf st l,x.2.length≤2^29 from fun x hx=>P.atomsOf_text HP.o x hx);clear hown hb hal
   go_wp2_with fail
   refine (impl_render _ _ _ (own_atoms HOWN.o) hsum HAT.o).mono ?_;rintro e w2 ⟨rfl,hb2⟩;have HB2:=bt HB hb2;clear hb2;go_wp2;go_ret2;exact⟨rfl,HB2.o⟩
theorem impl_screenOf (dv sv:Value) (l:P.Dic) (st:List Int) (w:World) (hu:EntR w dv l) (hs:IntR w sv st) (hm:Small l) (hE:Env w) :
 Calls Tryz.prog 26 #[.agg #[dv],sv] w (RenPost (P.scr l st) w):=by
 have hb0:Below w.heap.size w (w.alloc (.cells #[dv] 26)):=bZ.alloc lZ _
 have HU:=qh (hu.below hb0);have HST:=qh (hs.below hb0);have HB0:=qh hb0;have HE:=qh (hE.below hb0 hE.size)
 have HX:=qh (DBx.new dv 26 w)
 clear hb0
 obtain⟨ad,cap,rfl,_,_⟩:=hu
 obtain⟨sd,sc,rfl,_,_⟩:=hs
 go_enter Tryz.func26,Tryz.ntmps26
 go_wp2_with fail
 refine (isMatched _ _ l st _ HU.o HST.o hm HE.o).mono ?_
 rintro e w1 ⟨rfl,hb⟩
 have HB1:=bt HB0 hb;have HST1:=qh (HST.o.below hb);have HU1:=qh (HU.o.below hb);have HX1:=qh (HX.o.below hb);have HE1:=qh (HE.o.below hb HE.o.size)
 clear hb
 obtain⟨q,hq⟩:∃q,(P.dic l&&P.slist st)=q:=⟨_,rfl⟩
 have HQ:=qh hq
 rw [hq]
 clear hq
 cases q
 ·go_wp2;go_ret2;have h:P.scr l st=([],false):=by unfold P.scr;rw [HQ.o];rfl
  exact⟨by rw [h];rfl,HB1.o⟩
 ·have HD:=qh (show P.dic l=true∧P.slist st=true by have h:=HQ.o;simpa only [Bool.and_eq_true] using h);have hl60:=P.slist_len HD.o.2;obtain⟨k0,_⟩:=HX1.o
  go_wp2_with fail
  refine (segment _ _ l st _ HU1.o HST1.o hl60).mono ?_;rintro e w2 ⟨u,rfl,hp,hb⟩;have HB2:=bt HB1 hb;have HP:=qh hp;have HST2:=qh (HST1.o.below hb);have HE2:=qh (HE1.o.below hb HE1.o.size);obtain⟨ua,uc,rfl,_,_⟩:=hp;clear hb
  go_wp2_with fail
  refine (screenOf _ _ st (P.segA l st) _ HST2.o HP.o HD.o.2 (Nat.le_trans (P.segA_len l st) hl60) (fun p hp=>P.seg_piece HD.o.1 hp) HE2.o).mono ?_;rintro e w3 ⟨rfl,hb3⟩;have HB3:=bt HB2 hb3;clear hb3;have HS:=qh (show P.scr l st=P.render (P.atomsOf st (P.segA l st)) by unfold P.scr;rw [HQ.o];rfl);go_wp2;go_ret2;exact⟨by rw [HS.o];rfl,HB3.o⟩
def EdPost (x:P.Edit) (w:World) (e:Ending) (w':World):Prop:=e=.returned (.agg #[.int .i64 x.1,.string (S x.2)])∧Below w.heap.size w w'
theorem leastEdit (a b:Str) (w:World) (ha:a.length≤2^30) (hb:b.length≤2^30) :
 Calls Tryz.prog 208 #[.string (S a),.string (S b)] w (EdPost (P.least a b) w):=by
 go_enter Tryz.func208,Tryz.ntmps208
 go_wp2
 go_loopw [5] (fun i wr=>∃j:Nat,j≤a.length∧j≤b.length∧i=.int .i64 j∧a.take j=b.take j∧∃n,wr=(w.alloc (.cells #[.int .i64 0,.string (S [])] 55)).drewN n) (fun i _=>a.length-(intOf i).toNat)
 case atStart=>exact⟨0,Nat.zero_le _,Nat.zero_le _,rfl,rfl,0,rfl⟩
 case round=>
  obtain⟨j,hj,hk,rfl,hpre,n,rfl⟩:=hrel;have HPRE:=qh hpre;have HSB:=qh (show (a.length-j:Nat)=(a.length:Int)-(j:Int) by omega);clear hpre
  by_cases h1:j<a.length
  ·have i1:(j:Int)<(a.length:Int):=by omega
   by_cases h2:j<b.length
   ·have i2:(j:Int)<(b.length:Int):=by omega
    by_cases h3:a[j]=b[j]
    ·exact zq80
    ·have f3:((((a[j]'h1).toNat:Nat):Int)==(((b[j]'h2).toNat:Nat):Int))=false:=by
      rw [beq_eq_false_iff_ne];intro h;exact h3 (UInt8.toNat_inj.1 oZ)
     have HL:=qh (P.lcp_of j a b HPRE.o oZ oZ (.inr (.inr ⟨h1,h2,h3⟩)));exact zq42
   ·have i2:¬(j:Int)<(b.length:Int):=by omega
    have HL:=qh (P.lcp_of j a b HPRE.o oZ oZ (.inr (.inl oZ)));exact zq42
  ·have i1:¬(j:Int)<(a.length:Int):=by omega
   have HL:=qh (P.lcp_of j a b HPRE.o oZ oZ (.inl oZ));exact zq42
section
set_option maxHeartbeats 2000000
abbrev transV (u:Value) (sc:Str):Value:=.agg #[u,.string (S sc)]
abbrev logV (d p:Str) (n:Int):Value:=.agg #[.string (S d),.string (S p),.int .i64 n]
abbrev sessV (u us:Value) (sc d p:Str) (n:Int):Value:=.agg #[u,us,.string (S sc),.string (S d),.string (S p),.int .i64 n]
def SBox (b:Nat) (u us:Value) (sc d p:Str) (n:Int) (v:World):Prop:=
 v.cell? ⟨b,0,none⟩=some u∧v.cell? ⟨b,1,none⟩=some us∧v.cell? ⟨b,2,none⟩=some (.string (S sc))∧v.cell? ⟨b,3,none⟩=some (.string (S d))∧v.cell? ⟨b,4,none⟩=some (.string (S p))∧v.cell? ⟨b,5,none⟩=some (.int .i64 n)∧b<v.heap.size
theorem SBox.stand {b:Nat} {u us:Value} {sc d p:Str} {n:Int} {v v':World} {X:Blk} (h:SBox b u us sc d p n v) (hc:Chg X v v') (hX:¬X b):SBox b u us sc d p n v':=by
 obtain⟨h0,h1,h2,h3,h4,h5,h6⟩:=h;exact⟨(hc.cell (p:=⟨b,0,none⟩) h6 hX).trans h0,(hc.cell (p:=⟨b,1,none⟩) h6 hX).trans h1,(hc.cell (p:=⟨b,2,none⟩) h6 hX).trans h2,(hc.cell (p:=⟨b,3,none⟩) h6 hX).trans h3,(hc.cell (p:=⟨b,4,none⟩) h6 hX).trans h4,(hc.cell (p:=⟨b,5,none⟩) h6 hX).trans h5,Nat.lt_of_lt_of_le h6 hc.size⟩
theorem SBox.below {b:Nat} {u us:Value} {sc d p:Str} {n:Int} {v v':World} (h:SBox b u us sc d p n v) (hb:Below v.heap.size v v'):SBox b u us sc d p n v':=
 h.stand (Below.chg hb fun _=>False) fun h=>h
abbrev sessCells (u us:Value) (sc d p:Str) (n:Int):Obj:=.cells #[u,us,.string (S sc),.string (S d),.string (S p),.int .i64 n] 37
theorem SBox.new (u us:Value) (sc d p:Str) (n:Int) (v:World):SBox v.heap.size u us sc d p n (v.alloc (sessCells u us sc d p n)):=by
 refine⟨?_,?_,?_,?_,?_,?_,by simp⟩<;>go_simp
end
section
set_option maxHeartbeats 2000000
def SessPost (l:P.Dic) (w:World) (e:Ending) (w':World):Prop:=
 ∃u,e=.returned (.tuple #[sessV u (.slice none 0 0) [] [] [] 0,.bool (P.dic l)])∧Ents w' (Bet w.heap.size w'.heap.size) u (P.kept (P.dic l) l)∧Below w.heap.size w w'
def NBox (W:Nat) (dv:Value) (v:World):Prop:=
 v.cell? ⟨W,0,none⟩=some dv∧SBox (W+1) (.slice none 0 0) (.slice none 0 0) [] [] [] 0 v∧(∀o,v.frozen? ⟨W+1,o,none⟩=false)
theorem NBox.step {W:Nat} {dv:Value} {v v':World} (h:NBox W dv v) (hb:Below v.heap.size v v'):NBox W dv v':=by
 obtain⟨h1,h2,h3⟩:=h;have hz:=h2.2.2.2.2.2.2;exact⟨(hb.cell (p:=⟨W,0,none⟩) (by show W<_;omega)).trans h1,h2.below hb,fun o=>(hb.frozen (p:=⟨W+1,o,none⟩) hz).trans (h3 o)⟩
theorem NBox.new (dv:Value) (v:World) (t:TypeId):NBox v.heap.size dv ((v.alloc (.cells #[dv] t)).alloc (sessCells (.slice none 0 0) (.slice none 0 0) [] [] [] 0)):=by
 refine⟨by go_simp,?_,fun o=>?_⟩
 ·have:=SBox.new (.slice none 0 0) (.slice none 0 0) [] [] [] 0 (v.alloc (.cells #[dv] t))
  simpa using this
 ·simp
theorem impl_newSession (dv:Value) (l:P.Dic) (w:World) (hu:EntR w dv l) (hs:Small l) (hE:Env w) :
 Calls Tryz.prog 15 #[.agg #[dv]] w (SessPost l w):=by
 have hb0:Below w.heap.size w ((w.alloc (.cells #[dv] 26)).alloc (sessCells (.slice none 0 0) (.slice none 0 0) [] [] [] 0)):=((Below.refl w.heap.size w).alloc lZ _).alloc sZ _
 have HU:=qh (hu.below hb0)
 have HB0:=qh hb0;clear hb0
 have HN:=qh (NBox.new dv w 26)
 have HSM:=qh hs;clear hs
 have HE:=qh ((hE.alloc (.cells #[dv] 26)).alloc (sessCells (.slice none 0 0) (.slice none 0 0) [] [] [] 0));clear hE
 obtain⟨ad,cap,rfl,_,_⟩:=hu
 go_enter Tryz.func15,Tryz.ntmps15
 go_wp2_with fail
 refine (isValidDictionary _ l _ HU.o HSM.o.texts HE.o).mono ?_
 rintro e w1 ⟨rfl,hb⟩
 have HU1:=qh (HU.o.below hb)
 have HN1:=qh (HN.o.step hb)
 have hz1:w.heap.size+2≤w1.heap.size:=by have:=hb.size;simp at this;omega
 have HB1:=qh (HB0.o.trans (hb.mono (by simp;omega)))
 clear hb HU HB0 HN
 obtain⟨a0,⟨b0,b1,b2,b3,b4,b5,_⟩,f⟩:=HN1.o
 have f0:=f 0;have f1:=f 1;have f2:=f 2;have f3:=f 3;have f4:=f 4;have f5:=f 5
 clear f
 cases hd:P.dic l
 ·have HD:=qh hd;clear hd;clear a0;go_wp2;refine bodyPost_ret (v:=.tuple #[sessV (.slice none 0 0) (.slice none 0 0) [] [] [] 0,.bool false]) (by simp [results,Tryz.results15,go_sem,b0,b1,b2,b3,b4,b5]) rfl ⟨_,by rw [HD.o],?_,?_⟩
  ·rw [HD.o];exact RowO.nil _ _
  ·exact (((((HB1.o.setCell sZ _).setCell sZ _).setCell sZ _).setCell sZ _).setCell sZ _).setCell sZ _
 ·have HUP:=qh (P.up_of_dic hd);have HD:=qh hd;clear hd;clear b0 b1 b2 b3 b4 b5 f0 f1 f2 f3 f4 f5
  go_wp2_with fail
  refine (dictionaryOf_up _ l _ HU1.o HUP.o HSM.o.len HSM.o.outs).mono ?_;rintro e w2 ⟨u,rfl,hI,hb⟩;have HN2:=qh (HN1.o.step hb);have HI:=qh hI;have HB2:=bt HB1 hb;obtain⟨ud,uc,rfl,_,_⟩:=hI;clear hb HN1 HU1 HB1 a0;obtain⟨a0,⟨b0,b1,b2,b3,b4,b5,_⟩,f⟩:=HN2.o;have f0:=f 0;have f1:=f 1;have f2:=f 2;have f3:=f 3;have f4:=f 4;have f5:=f 5;clear f a0;go_wp2;refine bodyPost_ret (v:=.tuple #[sessV (.slice ud l.length uc) (.slice none 0 0) [] [] [] 0,.bool true]) (by simp [results,Tryz.results15,go_sem,b0,b1,b2,b3,b4,b5]) rfl ⟨_,by rw [HD.o],?_,?_⟩
  ·rw [HD.o]
   show Ents _ _ _ l
   refine (HI.o.stand (X:=fun b=>b=w.heap.size+1) entE_ok ((((((((Chg.refl _ w2).setCell ?_ _).setCell ?_ _).setCell ?_ _).setCell ?_ _).setCell ?_ _).setCell ?_ _)) ?_).wide ?_ ?_
   all_goals first|rfl|skip
   ·intro b hb;have:=hb.1;omega
   ·intro b hb;have h1:=hb.1;have h2:=hb.2;exact⟨by omega,by simp [World.setCell];exact h2⟩
   ·intro b hb;exact hb.2
  ·exact (((((HB2.o.setCell sZ _).setCell sZ _).setCell sZ _).setCell sZ _).setCell sZ _).setCell sZ _
end
theorem has (u:Value) (l:List Int) (x:Int) (w:World) (hu:IntR w u l) :
 Calls Tryz.prog 183 #[u,.int .i64 x] w fun e w'=>e=.returned (.bool (l.contains x))∧w'=w:=by
 obtain⟨ad,cap,rfl,⟨hl,hc⟩,hn,h3⟩:=hu
 have HC:=qh (show Calls Tryz.prog 246 #[.slice ad l.length cap,.int .i64 x] w fun e w'=>e=.returned (.bool (l.contains x))∧w'=w by
  rcases h3 with rfl|⟨g,o,rfl,hg,hcell⟩
  ·exact Tryz.slices_Contains_int_empty ad cap x w
  ·have h:=Tryz.slices_Contains_int g o l.length cap l x w lZ oZ (fun j hj=>by rw [hcell j hj];simp [hj]);rw [List.take_length]at h;exact h)
 clear h3 hn
 obtain⟨q,hq⟩:∃q,l.contains x=q:=⟨_,rfl⟩
 rw [hq]at HC⊢
 clear hq
 go_enter Tryz.func183,Tryz.ntmps183
 go_wp2_with fail
 refine HC.o.mono ?_
 rintro e w' ⟨rfl,rfl⟩
 go_wp2
 go_ret
 exact⟨rfl,rfl⟩
def TBx (b:Nat) (u:Value) (t:Str) (v:World):Prop:=b<v.heap.size∧v.cell? ⟨b,0,none⟩=some u∧v.cell? ⟨b,1,none⟩=some (.string (S t))∧v.frozen? ⟨b,0,none⟩=false∧v.frozen? ⟨b,1,none⟩=false
theorem TBx.below {b:Nat} {u:Value} {t:Str} {v v':World} (h:TBx b u t v) (hb:Below v.heap.size v v'):TBx b u t v':=by
 exact zq103
theorem TBx.new (u:Value) (t:Str) (v:World):TBx v.heap.size u t (v.alloc (.cells #[u,.string (S t)] 35)):=⟨by simp,by go_simp,by go_simp,by go_simp,by go_simp⟩
theorem impl_isValidTranslator (dv sv:Value) (l:P.Dic) (st:List Int) (t:Str) (w:World) (hu:EntR w dv l) (hs:IntR w sv st) (hm:Small l) (hE:Env w) :
 Calls Tryz.prog 106 #[.agg #[dv],transV sv t] w fun e w'=>e=.returned (.bool (P.trans l (st,t)))∧Below w.heap.size w w':=by
 have hb0:Below w.heap.size w ((w.alloc (.cells #[dv] 26)).alloc (.cells #[sv,.string (S t)] 35)):=((Below.refl w.heap.size w).alloc lZ _).alloc sZ _
 have HU:=qh (hu.below hb0);have HST:=qh (hs.below hb0);have HB0:=qh hb0;have HE:=qh (hE.below hb0 hE.size)
 have HX:=qh (show TBx (w.heap.size+1) sv t ((w.alloc (.cells #[dv] 26)).alloc (.cells #[sv,.string (S t)] 35)) by simpa using TBx.new sv t (w.alloc (.cells #[dv] 26)))
 clear hb0
 obtain⟨ad,cap,rfl,_,_⟩:=hu
 obtain⟨sd,sc,rfl,_,_⟩:=hs
 unfold transV
 go_enter Tryz.func106,Tryz.ntmps106
 go_wp2_with fail
 refine (impl_screenOf _ _ l st _ HU.o HST.o hm HE.o).mono ?_
 rintro e w1 ⟨rfl,hb⟩
 have HB1:=bt HB0 hb;have HST1:=qh (HST.o.below hb);have HX1:=qh (HX.o.below hb)
 have HP:=qh (show P.trans l (st,t)=((P.scr l st).2&&((P.scr l st).1==t&&!st.contains 1024)) from rfl)
 clear hb
 generalize P.scr l st=r at *
 obtain⟨r1,r2⟩:=r
 obtain⟨k0,k1,k2,_⟩:=HX1.o
 cases r2
 ·go_wp2;go_ret;exact⟨by rw [HP.o];rfl,HB1.o⟩
 ·by_cases h:r1=t
  ·subst h
   go_wp2_with fail
   refine (has _ st 1024 _ HST1.o).mono ?_;rintro e w2 ⟨rfl,rfl⟩;obtain⟨q,hq⟩:∃q,st.contains 1024=q:=⟨_,rfl⟩;rw [hq]at HP⊢;clear hq;go_wp2;go_ret;exact⟨by rw [HP.o];simp,HB1.o⟩
  ·exact zq138
namespace P
theorem next_len (l:List Int) (k:Int):(next l k).length≤l.length+1:=by
 unfold next
 split
 ·rw [List.length_take];omega
 ·rw [List.length_append];simp
end P
set_option maxHeartbeats 2000000
theorem ownK_read {B:Nat} {v:World} {u:Value} {l:List Int} (h:OwnK B v u l) (hl:l.length≤2^45):IntR v u l:=by
 have h':=h
 rcases h.2 with⟨rfl,h0⟩|⟨g,cap,cur,rfl,h1,h2,h3,h4,h5⟩
 ·have:l=[]:=by cases l with
   |nil=>rfl
   |cons=>simp at h0
  subst this;exact⟨none,0,rfl,⟨by simp,by simp⟩,fun _=>rfl,.inl rfl⟩
 ·refine⟨some ⟨g,0,none⟩,cap,rfl,⟨hl,h3⟩,(fun h=>by cases h),.inr ⟨g,0,rfl,?_,fun j hj=>?_⟩⟩
  ·exact (World.ownsRow.lt h' g rfl).2
  ·rw [Nat.zero_add,World.ownsRow.cellAt h' j oZ];unfold ints;rw [List.getElem?_map,List.getElem?_eq_getElem hj];rfl
theorem IntR.cap {v:World} {a:Option Addr} {n c:Nat} {l:List Int} (h:IntR v (.slice a n c) l):l.length≤c:=by
 obtain⟨ad,cap,h1,h2,_⟩:=h;injection h1 with _ _ h3;subst h3;exact h2.2
theorem ownK_take {B:Nat} {v:World} {a:Option Addr} {c m:Nat} {l:List Int} (h:OwnK B v (.slice a l.length c) l) (hl:l≠[]) (hm:m≤l.length):OwnK B v (.slice a m c) (l.take m):=by
 have hml:(l.take m).length=m:=by rw [List.length_take];omega
 rcases h.2 with⟨h1,h0⟩|⟨g,cap,cur,h0,h1,h2,h3,h4,h5,h6⟩
 ·exact absurd (List.eq_nil_of_length_eq_zero h0) hl
 ·injection h0 with h7 _ h8;subst h7 h8;refine⟨by simp [ints],.inr ⟨g,c,cur,by rw [hml],h1,h2,by omega,h4,h5,?_⟩⟩;rw [hml];have h9:(cur.toList.take (l.length*1)).take m=(ints l).take m:=by rw [h6]
  rw [List.take_take,Nat.min_eq_left oZ]at h9;rw [Nat.mul_one,h9];unfold ints;rw [List.map_take]
def EBx (b:Nat) (v:World):Prop:=b<v.heap.size∧v.cell? ⟨b,0,none⟩=some (.int .i64 0)∧v.cell? ⟨b,1,none⟩=some (.string (S []))∧v.frozen? ⟨b,0,none⟩=false∧v.frozen? ⟨b,1,none⟩=false
theorem EBx.below {b:Nat} {v v':World} (h:EBx b v) (hb:Below v.heap.size v v'):EBx b v':=by
 exact zq103
def PrBx (b:Nat) (sv:Value) (t:Str) (dv:Value) (v:World):Prop:=(b<v.heap.size∧v.cell? ⟨b,0,none⟩=some dv)∧TBx (b+1) sv t v∧TBx (b+1+1) (.slice none 0 0) [] v∧EBx (b+1+1+1) v
theorem PrBx.below {b:Nat} {sv dv:Value} {t:Str} {v v':World} (h:PrBx b sv t dv v) (hb:Below v.heap.size v v'):PrBx b sv t dv v':=
 ⟨⟨Nat.lt_of_lt_of_le h.1.1 hb.size,(hb.cell (p:=⟨b,0,none⟩) h.1.1).trans h.1.2⟩,h.2.1.below hb,h.2.2.1.below hb,h.2.2.2.below hb⟩
def editV (e:P.Edit):Value:=.agg #[.int .i64 e.1,.string (S e.2)]
def PressPost (r:(P.Tr×P.Edit)×Bool) (w:World) (e:Ending) (w':World):Prop:=
 ∃u,e=.returned (.tuple #[transV u r.1.1.2,editV r.1.2,.bool r.2])∧OwnK w.heap.size w' u r.1.1.1∧Below w.heap.size w w'
theorem press (dv sv:Value) (l:P.Dic) (st:List Int) (t:Str) (k:Int) (w:World) (hu:EntR w dv l) (hs:IntR w sv st) (hm:Small l) (hE:Env w) (hst:st.length≤2^20) (ht:t.length≤2^30) :
 Calls Tryz.prog 268 #[.agg #[dv],transV sv t,.int .i64 k] w (PressPost (P.pressP l (st,t) k) w):=by
 obtain⟨i0,hi,hz0,hz1,hz2⟩:=info_parts info_int
 obtain⟨W0,hW0⟩:∃v,((((w.alloc (.cells #[dv] 26)).alloc (.cells #[sv,.string (S t)] 35)).alloc (.cells #[.slice none 0 0,.string (S [])] 35)).alloc (.cells #[.int .i64 0,.string (S [])] 55))=v:=⟨_,rfl⟩
 have hb0:Below w.heap.size w W0:=by rw [←hW0];exact ((((Below.refl w.heap.size w).alloc lZ _).alloc sZ _).alloc (by simp;omega) _).alloc (by simp;omega) _
 have hz0':W0.heap.size=w.heap.size+4:=by rw [←hW0];simp
 have hx0:PrBx w.heap.size sv t dv W0:=by
  exact zq55
 have HU:=qh (hu.below hb0);have HST:=qh (hs.below hb0);have HB0:=qh hb0;have HE:=qh (hE.below hb0 hE.size)
 have HX:=qh hx0;have HZ0:=qh hz0'
 clear hb0 hz0'
 obtain⟨ad,cap,rfl,_,_⟩:=hu
 obtain⟨sd,sc,rfl,_,_⟩:=hs
 unfold transV
 go_enter Tryz.func268,Tryz.ntmps268
 go_upto_region 1 with (fail)
 try rw [hW0]
 clear hW0
 obtain⟨k0,⟨k1,k2,k3,_⟩,_,_⟩:=hx0
 go_wp2_with fail
 refine (copyOf_own _ st _ HST.o oZ).mono ?_
 rintro e w1 ⟨u,rfl,ho,hb⟩
 have HB1:=qh hb;have HX1:=qh (HX.o.below hb);have HOW:=qh ho
 obtain⟨ua,uc,rfl⟩:=ownK_form ho
 have hz1':=hb.size
 clear k0 k1 k2 k3 ho hb
 have HOW2:=qh (HOW.o.alloc (.cells #[.int .i64 k] 3))
 go_wp2_with (at_builtin;refine wpList_append_own _ rfl _ _ 33 rfl W0.heap.size 3 i0 (.int .i64 0) 1 8 Tryz.underlying33 hi hz0 hz1 hz2 rfl dZ (.slice ua st.length uc) st.length (ints st) rfl HOW2.o ⟨w1.heap.size,0,none⟩ 1 1 [.int .i64 k] rfl rfl ?_ ?_ ?_ ?_ ?_ ?_)
 all_goals first|exact⟨rfl,rfl⟩|(intro z hz;simp only [List.mem_cons,List.not_mem_nil,or_false]at hz;subst hz;rfl)|(unfold maxLen;omega)|omega|(simp;omega)|(intro i z hz;rcases i with _|i;(injection hz with hz;subst hz;rw [add0];go_simp);cases hz)|skip
 intro u4 w4 hown hgr _
 have R:=qh (own_app HOW.o HB1.o 3 hown hgr)
 have HX4:=qh (HX.o.below R.o.2)
 have hz4:=R.o.2.size
 clear hown hgr
 obtain⟨va,vc,rfl⟩:=ownK_form R.o.1
 have HE4:=qh (HE.o.below R.o.2 HE.o.size)
 have HU4:=qh (HU.o.below R.o.2)
 go_upto_if 19 with fail
 go_cut [9] (fun u wx=>(∃a c,u=.slice a (P.next st k).length c)∧OwnK W0.heap.size w4 u (P.next st k)∧w4=wx)
 case first=>
  by_cases hk:k=1024
  ·subst hk;have HN:=qh (show P.next st 1024=(st++[1024]).take (st.length-1) by unfold P.next;rw [if_pos rfl,List.take_append_of_le_length oZ]);have HL:=qh (show (P.next st 1024).length=st.length-1 by rw [HN.o,List.length_take,List.length_append];omega);have i1:((1024:Int)==1024)=true:=rfl;obtain⟨m,hm⟩:∃m,st.length-1=m:=⟨_,rfl⟩;rw [hm]at HN HL;have i2:max (0:Int) ((st.length:Int)+1-2)=(m:Int):=by omega
   have hvc:=(ownK_read R.o.1 (by rw [List.length_append];simp;omega)).cap;rw [List.length_append]at hvc;simp only [List.length_cons,List.length_nil]at hvc;have i3:m≤vc:=by omega
   have i4:(m:Int)≤(vc:Int):=by omega
   have HR:=qh (show OwnK W0.heap.size w4 (.slice va m vc) (P.next st 1024) by rw [HN.o];exact ownK_take R.o.1 sZ (by rw [List.length_append];omega));go_wp2;go_meet;exact⟨⟨va,vc,by rw [HL.o]⟩,HR.o,rfl⟩
  ·have i1:(k==1024)=false:=by simpa using hk
   have HN:=qh (show st++[k]=P.next st k by unfold P.next;rw [if_neg hk]);have HR:=qh (show OwnK W0.heap.size w4 (.slice va (st++[k]).length vc) (P.next st k) by rw [←HN.o];exact R.o.1);rw [HN.o]at HR⊢;go_wp2;go_meet;exact⟨⟨_,_,rfl⟩,HR.o,rfl⟩
 case rest=>
  obtain⟨⟨a,c,rfl⟩,ho,rfl⟩:=hcut;have HN:=qh (show P.pressP l (st,t) k=if (P.scr l (P.next st k)).2 then (((P.next st k,(P.scr l (P.next st k)).1),P.least t (P.scr l (P.next st k)).1),true) else ((P.tr0,(0,[])),false) from rfl);have hnl:=P.next_len st k;have hsl:=P.scr_len l (P.next st k);generalize P.next st k=nx at *;have HI:=qh (ownK_read ho oZ);have HO4:=qh ho;obtain⟨⟨_,k0⟩,_,_,_⟩:=HX4.o;clear ho HOW HOW2 HB1 HX1 HST hz1'
  go_wp2_with fail
  refine (impl_screenOf _ _ l nx _ HU4.o HI.o hm HE4.o).mono ?_;rintro e w5 ⟨rfl,hb5⟩;generalize P.scr l nx=r at *;obtain⟨r1,r2⟩:=r;simp only at hsl;have HX5:=qh (HX4.o.below hb5);have HB5:=qh (R.o.2.trans (hb5.mono hz4));have HO5:=qh (own_kept HO4.o hb5 lZ);have hz5:=hb5.size;clear hb5 k0
  cases r2
  ·obtain⟨_,⟨_,k1,k2,_⟩,⟨_,k3,k4,k7,k8⟩,⟨_,k5,k6,k9,k10⟩⟩:=HX5.o;go_wp2;refine bodyPost_ret (v:=.tuple #[transV (.slice none 0 0) [],editV (0,[]),.bool false]) (by simp [transV,editV,k3,k4,k5,k6,results,Tryz.results268,go_sem]) rfl ⟨.slice none 0 0,by rw [HN.o];rfl,by rw [HN.o];exact World.ownsRow_nil _ _ _ _,?_⟩;exact (((((HB0.o.trans (HB5.o.mono HB0.o.size)).setCell (by simp<;>omega) _).setCell (by simp<;>omega) _).setCell (by simp<;>omega) _).setCell (by simp<;>omega) _)
  ·obtain⟨_,⟨_,k1,k2,_⟩,_,_⟩:=HX5.o
   go_wp2_with fail
   refine (leastEdit t r1 _ ht oZ).mono ?_;rintro e w6 ⟨rfl,hb6⟩;have HX6:=qh (HX5.o.below hb6);have HB6:=qh (HB5.o.trans (hb6.mono (Nat.le_trans hz4 hz5)));have HO6:=qh (own_kept HO5.o hb6 lZ);clear hb6 k1 k2;obtain⟨_,_,⟨_,k3,k4,k7,k8⟩,⟨_,k5,k6,k9,k10⟩⟩:=HX6.o;have hzz:=HZ0.o;go_wp2;refine bodyPost_ret (v:=.tuple #[transV (.slice a nx.length c) r1,editV (P.least t r1),.bool true]) (by simp [transV,editV,k3,k4,k5,k6,results,Tryz.results268,go_sem]) rfl ⟨.slice a nx.length c,by rw [HN.o];rfl,?_,?_⟩
   ·rw [HN.o];exact zq113
   ·exact (((((HB0.o.trans (HB6.o.mono HB0.o.size)).setCell (by simp<;>omega) _).setCell (by simp<;>omega) _).setCell (by simp<;>omega) _).setCell (by simp<;>omega) _)
theorem impl_press (dv sv:Value) (l:P.Dic) (st:List Int) (t:Str) (k:Int) (w:World) (hu:EntR w dv l) (hs:IntR w sv st) (hm:Small l) (hE:Env w) (hst:st.length≤2^20) (ht:t.length≤2^30) :
 Calls Tryz.prog 207 #[.agg #[dv],transV sv t,.int .i64 k] w (PressPost (P.press l (st,t) k) w):=by
 obtain⟨W0,hW0⟩:∃v,((((w.alloc (.cells #[dv] 26)).alloc (.cells #[sv,.string (S t)] 35)).alloc (.cells #[.slice none 0 0,.string (S [])] 35)).alloc (.cells #[.int .i64 0,.string (S [])] 55))=v:=⟨_,rfl⟩
 have hb0:Below w.heap.size w W0:=by rw [←hW0];exact ((((Below.refl w.heap.size w).alloc lZ _).alloc sZ _).alloc (by simp;omega) _).alloc (by simp;omega) _
 have hz0':W0.heap.size=w.heap.size+4:=by rw [←hW0];simp
 have hx0:PrBx w.heap.size sv t dv W0:=by
  exact zq55
 have HU:=qh (hu.below hb0);have HST:=qh (hs.below hb0);have HB0:=qh hb0;have HE:=qh (hE.below hb0 hE.size)
 have HX:=qh hx0;have HZ0:=qh hz0'
 clear hb0 hz0'
 obtain⟨ad,cap,rfl,_,_⟩:=hu
 obtain⟨sd,sc,rfl,_,_⟩:=hs
 unfold transV
 go_enter Tryz.func207,Tryz.ntmps207
 go_upto_region 1 with (fail)
 try rw [hW0]
 clear hW0
 obtain⟨⟨_,k0⟩,⟨k1,k2,k3,_⟩,_,_⟩:=hx0
 go_wp2_with fail
 refine (impl_isValidTranslator _ _ l st t _ HU.o HST.o hm HE.o).mono ?_
 rintro e w1 ⟨rfl,hb⟩
 have HB1:=qh hb;have HX1:=qh (HX.o.below hb);have HST1:=qh (HST.o.below hb);have HU1:=qh (HU.o.below hb);have HE1:=qh (HE.o.below hb HE.o.size)
 clear hb k0 k1 k2 k3
 obtain⟨⟨_,k0⟩,⟨_,k1,k2,_,_⟩,⟨_,k3,k4,k7,k8⟩,⟨_,k5,k6,k9,k10⟩⟩:=HX1.o
 have HP:=qh (show P.press l (st,t) k=if P.trans l (st,t)&&P.stroke k then P.pressP l (st,t) k else ((P.tr0,(0,[])),false) from rfl)
 generalize P.trans l (st,t)=q at *
 cases q
 ·exact zq178
 ·go_wp2_with fail
  refine (isValidStroke _ _).mono ?_;rintro e w2 ⟨rfl,rfl⟩;generalize P.stroke k=q at *
  cases q
  ·exact zq178
  ·go_wp2_with fail
   refine (press _ _ l st t k _ HU1.o HST1.o hm HE1.o hst ht).mono ?_;rintro e w3 ⟨u,rfl,ho,hb⟩;rw [Bool.and_self,if_pos rfl]at HP;have HX3:=qh (HX1.o.below hb);have HO:=qh ho;have HB3:=qh (HB0.o.trans ((HB1.o.trans (hb.mono HB1.o.size)).mono HB0.o.size));have hzz:w.heap.size+4≤w1.heap.size:=by have h1:=HB1.o.size;have h2:=HZ0.o;omega
   generalize P.pressP l (st,t) k=r at *;obtain⟨⟨⟨nx,r1⟩,ed⟩,ok⟩:=r;simp only at ho HO⊢;obtain⟨va,vc,rfl⟩:=ownK_form ho;clear ho hb k0 k1 k2 k3 k4 k5 k6 k7 k8 k9 k10;obtain⟨_,_,⟨_,k3,k4,k7,k8⟩,⟨_,k5,k6,k9,k10⟩⟩:=HX3.o;unfold transV editV;go_wp2;refine bodyPost_ret (v:=.tuple #[transV (.slice va nx.length vc) r1,editV ed,.bool ok]) (by simp [transV,editV,k3,k4,k5,k6,results,Tryz.results207,go_sem]) rfl ⟨.slice va nx.length vc,by rw [HP.o],?_,?_⟩
   ·rw [HP.o];exact own_base (ownsRow_setCell_below (ownsRow_setCell_below (ownsRow_setCell_below (ownsRow_setCell_below HO.o (by simp<;>omega) _) (by simp<;>omega) _) (by simp<;>omega) _) (by simp<;>omega) _) oZ
   ·exact ((((HB3.o.setCell (by simp<;>omega) _).setCell (by simp<;>omega) _).setCell (by simp<;>omega) _).setCell (by simp<;>omega) _)
def BetO (lo hi:Nat) (u:Value):Blk:=fun b=>(lo≤b∧b<hi)∧u.ownBlock=some b
theorem ownK_ints {B:Nat} {v:World} {u:Value} {l:List Int} (h:OwnK B v u l) (hl:l.length≤2^30):Ints v (BetO B v.heap.size u) u l:=by
 rcases id h.2 with⟨rfl,h0⟩|⟨g,cap,cur,hv,hg,hh,hnc,_⟩
 ·rw [List.eq_nil_of_length_eq_zero h0];exact RowO.nil _ _
 ·have hob:u.ownBlock=some g:=by rw [hv];rfl
  have hlt:=(World.ownsRow.lt h g hob).2;have hBl:BetO B v.heap.size u g:=⟨⟨hg,hlt⟩,hob⟩;subst hv;refine ints_of_cel (fun j hj=>?_) hBl (fun b hb=>hb.1.2) hl hnc;exact zq117
set_option maxHeartbeats 4000000
theorem spec_insert (dv x:Value) (l:P.Dic) (o:List Int) (t:Str) (w:World) (hu:EntR w dv l) (ho:IntR w x o) (hs:Small l) (h1:o.length≤2^20) (h2:t.length≤2^30) :
 Calls Tryz.prog 295 #[.agg #[dv],.agg #[x,.string (S t)]] w (InsPost (o,t) l w):=by
 have hb0:Below w.heap.size w (((w.alloc (.cells #[dv] 26)).alloc (.cells #[x,.string (S t)] 119)).alloc (.cells #[.slice none 0 0] 26)):=(((Below.refl w.heap.size w).alloc lZ _).alloc sZ _).alloc (by simp;omega) _
 have HU:=qh (hu.below hb0);have HO:=qh (ho.below hb0)
 have HB0:=qh hb0;clear hb0
 have HN:=qh (IBox.new dv x t w)
 have HSM:=qh hs;clear hs
 have HL1:=qh h1;have HL2:=qh h2;clear h1 h2
 obtain⟨ad,cap,rfl,_,_⟩:=hu
 obtain⟨od,oc,rfl,_,_⟩:=ho
 go_enter Tryz.func295,Tryz.ntmps295
 go_wp2_with fail
 refine (l6Good _ l _ HU.o HSM.o.texts).mono ?_
 rintro e w1 ⟨rfl,hb⟩
 have HU1:=qh (HU.o.below hb);have HO1:=qh (HO.o.below hb)
 have HN1:=qh (HN.o.below hb)
 have HB1:=qh (HB0.o.trans (hb.mono (by simp;omega)))
 clear hb HU HB0 HN HO
 cases hd:P.dic l
 ·have HD:=qh (show P.insOk (o,t) l=false by unfold P.insOk;rw [hd];rfl);clear hd;obtain⟨_,_,_,b0,f0,_⟩:=HN1.o;go_wp2;refine bodyPost_ret (v:=.tuple #[.agg #[.slice none 0 0],.bool false]) (by simp [results,Tryz.results295,go_sem,b0]) rfl ⟨_,by rw [HD.o],?_,?_⟩
  ·rw [HD.o];exact RowO.nil _ _
  ·exact HB1.o.setCell (by simp;omega) _
 ·have HDC:=qh hd;clear hd;obtain⟨a0,a1,a2,_⟩:=HN1.o
  go_wp2_with fail
  refine (l6Entry _ o t _ HO1.o HL2.o).mono ?_;rintro e w2 ⟨rfl,hb⟩;have HU2:=qh (HU1.o.below hb);have HO2:=qh (HO1.o.below hb);have HN2:=qh (HN1.o.below hb);have HB2:=bt HB1 hb;clear hb HU1 HB1 HN1 HO1 a0 a1 a2
  cases he:P.entry (o,t)
  ·have HD:=qh (show P.insOk (o,t) l=false by unfold P.insOk;rw [he,Bool.false_and,Bool.and_false]);clear he;obtain⟨_,_,_,b0,f0,_⟩:=HN2.o;go_wp2;refine bodyPost_ret (v:=.tuple #[.agg #[.slice none 0 0],.bool false]) (by simp [results,Tryz.results295,go_sem,b0]) rfl ⟨_,by rw [HD.o],?_,?_⟩
   ·rw [HD.o];exact RowO.nil _ _
   ·exact HB2.o.setCell (by simp;omega) _
  ·have HEN:=qh he;clear he;obtain⟨a0,a1,a2,_⟩:=HN2.o
   go_wp2_with fail
   refine (l6Put _ _ l o t _ HU2.o HO2.o HSM.o.len HSM.o.outs HL1.o).mono ?_;rintro e w4 ⟨u4,rfl,hI,hb⟩;have HZ2:=qh HN2.o.2.2.2.2.2;have HN5:=qh (HN2.o.below hb);have HB6:=bt HB2 hb;have hba:=(Below.refl w4.heap.size w4).alloc lZ (.cells #[u4] 26);have HI:=qh hI;obtain⟨u4d,u4c,rfl,hlp,_⟩:=hI;have HZ4:=qh (show w2.heap.size≤w4.heap.size from hb.size);clear hb HN2 HB2 a0 a1 a2;have HI2:=qh (show Ents _ _ _ (P.putF (o,t) false l) from HI.o.below entE_ok hba);have HN6:=qh (HN5.o.below hba);have HB7:=bt HB6 hba;clear hba HN5 HB6;obtain⟨_,_,_,b0,f0,_⟩:=HN6.o
   by_cases hlen:(40:Int)<((P.putF (o,t) false l).length:Int)
   ·have HD:=qh (show P.insOk (o,t) l=false by unfold P.insOk;rw [HDC.o,HEN.o,decide_eq_false oZ];rfl);go_wp2;refine bodyPost_ret (v:=.tuple #[.agg #[.slice none 0 0],.bool false]) (by simp [results,Tryz.results295,go_sem,b0]) rfl ⟨_,by rw [HD.o],?_,?_⟩
    ·rw [HD.o];exact RowO.nil _ _
    ·exact HB7.o.setCell (by simp;omega) _
   ·have HD:=qh (show P.insOk (o,t) l=true by unfold P.insOk;rw [HDC.o,HEN.o,decide_eq_true oZ];rfl);go_wp2;refine bodyPost_ret (v:=.tuple #[.agg #[.slice u4d (P.putF (o,t) false l).length u4c],.bool true]) (by simp [results,Tryz.results295,go_sem,b0]) rfl ⟨_,by rw [HD.o],?_,?_⟩
    ·rw [HD.o]
     show Ents _ _ _ (P.putF (o,t) false l)
     refine ents_done (w.heap.size+2) HI2.o fun b hb=>?_;have h1:=hb.1;have h2:=hb.2;have h3:=HZ2.o;simp;omega
    ·exact HB7.o.setCell (by simp;omega) _
def Box2E (b:Nat) (x:Value) (t:Str) (v:World):Prop:=v.cell? ⟨b,0,none⟩=some x∧v.cell? ⟨b,1,none⟩=some (.string (S t))∧b<v.heap.size
theorem Box2E.stand {b:Nat} {x:Value} {t:Str} {v v':World} {X:Blk} (h:Box2E b x t v) (hc:Chg X v v') (hX:¬X b):Box2E b x t v':=
 ⟨(hc.cell (p:=⟨b,0,none⟩) h.2.2 hX).trans h.1,(hc.cell (p:=⟨b,1,none⟩) h.2.2 hX).trans h.2.1,Nat.lt_of_lt_of_le h.2.2 hc.size⟩
theorem Box2E.below {b:Nat} {x:Value} {t:Str} {v v':World} (h:Box2E b x t v) (hb:Below v.heap.size v v'):Box2E b x t v':=h.stand (Below.chg hb fun _=>False) fun h=>h
theorem Box2E.new (x:Value) (t:Str) (T:TypeId) (v:World):Box2E v.heap.size x t (v.alloc (.cells #[x,.string (S t)] T)):=⟨by go_simp,by go_simp,by simp⟩
namespace P
end P
set_option maxHeartbeats 2000000
theorem lem_cut {P Q:Prop} (h:P→Q) (p:P):Q:=h p
theorem RowO.to {α:Type} {E:ElT α} {wd:Nat} (hE:ElOk E) {v v':World} {lo hi lo' hi':Nat} {x u:Value} {l:List α} (h:RowO wd E v (BetO lo hi x) u l) (hb:Below v.heap.size v v') (h1:lo'≤lo) (h2:hi≤hi') (h3:hi'≤v'.heap.size):RowO wd E v' (BetO lo' hi' x) u l:=
 (h.below hE hb).wide (fun _ hb=>⟨⟨Nat.le_trans h1 hb.1.1,Nat.lt_of_lt_of_le hb.1.2 h2⟩,hb.2⟩) (fun _ hb=>Nat.lt_of_lt_of_le hb.1.2 h3)
theorem Box2E.set2 {b:Nat} {x y:Value} {t r:Str} {v:World} (h0:v.cell? ⟨b,0,none⟩=some x) (h1:v.cell? ⟨b,1,none⟩=some (.string (S t))) (hz:b<v.heap.size):Box2E b y r ((v.setCell ⟨b,0,none⟩ y).setCell ⟨b,1,none⟩ (.string (S r))):=by
 refine⟨?_,?_,by simpa [World.setCell] using hz⟩
 ·go_simp
 ·go_simp
theorem EBx.new (v:World):EBx v.heap.size (v.alloc (.cells #[.int .i64 0,.string (S [])] 55)):=⟨by simp,by go_simp,by go_simp,by go_simp,by go_simp⟩
theorem TBx.stand {b:Nat} {u:Value} {t:Str} {v v':World} {X:Blk} (h:TBx b u t v) (hc:Chg X v v') (hX:¬X b):TBx b u t v':=by
 exact zq102
theorem EBx.stand {b:Nat} {v v':World} {X:Blk} (h:EBx b v) (hc:Chg X v v') (hX:¬X b):EBx b v':=by
 exact zq102
namespace P
theorem trans_len {d:Dic} {t:Tr} (h:trans d t=true):t.1.length≤60∧t.2.length≤2000:=by
 obtain⟨h1,_,_⟩:=trans_parts h;refine⟨?_,screen_len (trans_screen h)⟩
 have h2:slist t.1=true:=by
  unfold scr at h1
  cases hq:slist t.1
  ·rw [hq]at h1;simp at h1
  ·rfl
 exact slist_len h2
end P
set_option maxHeartbeats 4000000
end Go.Proofs.YtggfdnopminemaaGreatDoor
