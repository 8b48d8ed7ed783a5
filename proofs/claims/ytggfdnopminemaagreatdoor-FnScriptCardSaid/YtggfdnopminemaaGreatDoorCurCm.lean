/- Walks: pieces without a. -/
import Derived.Test.YtggfdnopminemaaGreatDoorSesF
set_option linter.all false
namespace Go.Proofs.YtggfdnopminemaaGreatDoor
open Go.Proofs.Tryz
variable {B C D K hi lo:Nat} {l:P.Dic} {u:Go.Value} {v v' w:Go.World}
namespace P
theorem b8y (l:List Pc) (x:Pc):blank (l++[x])=if x.2=[] then blank l+1 else blank l:=by
 unfold blank;rw [List.filter_append,List.length_append]
 by_cases h:x.2=[]
 .rw [if_pos h,List.filter_cons_of_pos (by simp [h])];rfl
 .rw [if_neg h,List.filter_cons_of_neg (by simp [h])];rfl
theorem b4o (l:List Pc):blank l<=l.length:=List.length_filter_le _ _
theorem b1s {o:List Int} (h:a0j o=true):a3a o=true:=by
 unfold a0j at h;unfold a3a;simp only [Bool.and_eq_true,decide_eq_true_eq]at h⊢;exact⟨by omega,h.2⟩
end P
open Go Go.RowKit
set_option maxHeartbeats 8000000
set_option maxRecDepth 100000
theorem c9e (u:Value) (l:List P.Pc) (w:World) (hu:PcR w u l) :
 Cz 231 #[u] w λe w'=>e=.returned (.int .i64 (P.blank l:Int))/\w=w':=by
 have HU:=qh hu
 obtain⟨ad,cap,rfl,hl,_⟩:=hu
 go_enter func231,ntmps231
 go_wp2
 go_loop [3,4] (λc i=>∃k:Nat,k<=l.length/\i=.int .i64 k/\c=.int .i64 (P.blank (l.take k):Int)) (λ_ i=>l.length-(intOf i).toNat)
 case atStart=>exact⟨0,Nat.zero_le _,rfl,rfl⟩
 case round=>
  obtain⟨k,hk,rfl,rfl⟩:=hrel
  by_cases hlt:k<l.length
  .obtain⟨g,o,hga,hgl,c0,c1,c2⟩:=HU.o.at k hlt;subst hga;have i1:(k:Int)<(l.length:Int):=by omega
   have HS:Hq (P.blank (l.take (k+1))=if l[k].2=[] then P.blank (l.take k)+1 else P.blank (l.take k)):=⟨by rw [a0g l k hlt,P.b8y]⟩;have hbl:=P.b4o (l.take k);have hbk:P.blank (l.take k)<=k:=by rw [List.length_take]at hbl;omega
   clear hbl;generalize P.blank (l.take k)=bk at *
   by_cases he:l[k].2=[]
   .rw [he]at c2;have HS2:=qh (HS.o.trans (if_pos he));clear HS he;go_wp2
    go_round
    case rel=>exact⟨k+1,by omega,by go_num,by rw [HS2.o];go_num⟩
    case measure=>exact zq
   .have f1:(l[k].2==[])=false:=by simpa using he
    have HS2:=qh (HS.o.trans (if_neg he));clear HS;generalize l[k].2=tx at *;go_wp2
    go_round
    case rel=>exact⟨k+1,by omega,by go_num,by rw [HS2.o]⟩
    case measure=>exact zq
  .have hkl:k=l.length:=by omega
   subst hkl;have HTL:=qh (List.take_length (l:=l))
   try rw [HTL.o]
   go_wp2;go_ret;exact⟨rfl,rfl⟩
theorem count_one (p:P.Pc) (w:World) :
 Cz 218 #[.agg #[.int .i64 p.1.1,.int .i64 p.1.2,.string (S p.2)]] w λe w'=>e=.returned (.bool p.2.isEmpty)/\Bl w w':=by
 have HB:=qh ((Below.refl w.heap.size w).alloc lZ (.cells #[.int .i64 p.1.1,.int .i64 p.1.2,.string (S p.2)] 173))
 obtain⟨⟨a,b⟩,t⟩:=p
 simp only at HB⊢
 go_enter func218,ntmps218
 go_wp2
 go_ret
 exact⟨rfl,HB.o⟩
theorem c5v (u:Value) (l:List P.Pc) (w:World) (hu:PcR w u l) (hl60:l.length<=60) :
 Cz 217 #[u,.func (Fn.func 218) #[] #[]] w
  λe w'=>(∃ad cap,e=.returned (.slice ad (P.blank l) cap))/\Bl w w':=by
 obtain⟨i0,hi,hz0,hz1,hz2⟩:=info_parts c4u
 have HU:=qh hu
 have HB0:=qh ((Below.refl w.heap.size w).alloc lZ (.cells #[] 173))
 have HO0:=qh (show OwnP w.heap.size (w.alloc (.cells #[] 173)) (.slice (some ⟨w.heap.size,0,none⟩) 0 0) [] by have h:=World.ownsRow_lit (base:=w.heap.size) (e:=173) (size:=3) w #[] 0 lZ (Nat.zero_le _) sZ;simpa [OwnP,a4p] using h)
 obtain⟨ad,cap,rfl,hl,_⟩:=hu
 go_enter func217,ntmps217
 go_wp2_with fail
 go_loopw [5,11] (λs i wr=>∃(j:Nat) (xs:List P.Pc),j<=l.length/\i=.int .i64 j/\xs.length=P.blank (l.take j)/\OwnP w.heap.size wr s xs/\Bl w wr) (λ_ i _=>l.length-(intOf i).toNat)
 case atStart=>exact⟨0,[],Nat.zero_le _,rfl,rfl,HO0.o,HB0.o⟩
 case round=>
  obtain⟨j,xs,hj,rfl,hxl,hown,hb⟩:=hrel;have HOW:=qh hown;have HB:=qh hb;have HZ:=qh hb.size;have HXL:=qh hxl;have hbl:=P.b4o (l.take j);have hxn:xs.length<=j:=by rw [List.length_take]at hbl;omega
  obtain⟨ua,uc,rfl⟩:=OwnP.form hown;clear hbl hown hxl HO0 HB0
  by_cases hlt:j<l.length
  .obtain⟨g,o,hga,hgl,c0,c1,c2⟩:=(HU.o.below hb).at j hlt;subst hga;have i1:(j:Int)<(l.length:Int):=by omega
   have HS:Hq (P.blank (l.take (j+1))=if l[j].2=[] then P.blank (l.take j)+1 else P.blank (l.take j)):=⟨by rw [a0g l j hlt,P.b8y]⟩;generalize l[j]=x at *;obtain⟨⟨a,b⟩,t⟩:=x;simp only at c0 c1 c2 HS;have hba:=(Below.refl wr.heap.size wr).alloc lZ (.cells #[.int .i64 a,.int .i64 b,.string (S t)] 173);have HBA:=qh hba;have d0:(wr.alloc (.cells #[.int .i64 a,.int .i64 b,.string (S t)] 173)).cell? ⟨wr.heap.size,0,none⟩=some (.int .i64 a):=by go_simp
   have d1:(wr.alloc (.cells #[.int .i64 a,.int .i64 b,.string (S t)] 173)).cell? ⟨wr.heap.size,1,none⟩=some (.int .i64 b):=by go_simp
   have d2:(wr.alloc (.cells #[.int .i64 a,.int .i64 b,.string (S t)] 173)).cell? ⟨wr.heap.size,2,none⟩=some (.string (S t)):=by go_simp
   have HDD:=qh (And.intro d0 (And.intro d1 d2));clear hb hba d0 d1 d2
   go_wp2_with fail
   refine (count_one ((a,b),t) _).mono ?_;rintro e v1 ⟨rfl,hb1⟩;have hzv:wr.heap.size+1<=v1.heap.size:=by have:=hb1.size;simp at this;omega
   have e0:=(hb1.cell (p:=⟨wr.heap.size,0,none⟩) sZ).trans HDD.o.1;have e1:=(hb1.cell (p:=⟨wr.heap.size,1,none⟩) sZ).trans HDD.o.2.1;have e2:=(hb1.cell (p:=⟨wr.heap.size,2,none⟩) sZ).trans HDD.o.2.2;have HB1:=qh (HBA.o.trans (hb1.mono sZ));have HBW:=qh (HB.o.trans (HB1.o.mono HZ.o));have HOW1:=qh (a0i HOW.o HB1.o lZ);clear hb1 HBA HDD c0 c1 c2
   by_cases ht:t=[]
   .have HS2:=qh (HS.o.trans (if_pos ht));have f1:t.isEmpty=true:=by rw [ht];rfl
    have HOA:Hq ((v1.alloc (.cells #[.int .i64 a,.int .i64 b,.string (S t)] 173)).ownsRow w.heap.size 173 3 (.slice ua xs.length uc) xs.length (a4p xs)):=⟨World.ownsRow.alloc HOW1.o _⟩;have HZ1:=qh HBW.o.size;simp only [f1];clear ht HS f1
    go_wp2_with (at_builtin;refine wpList_append_own _ rfl _ _ 115 rfl w.heap.size 173 i0 (.agg #[.int .i64 0,.int .i64 0,.string ⟨#[]⟩]) 3 32 underlying115 hi hz0 hz1 hz2 rfl dZ (.slice ua xs.length uc) xs.length (a4p xs) rfl HOA.o ⟨v1.heap.size,0,none⟩ 1 1 [.int .i64 a,.int .i64 b,.string (S t)] rfl rfl ?_ ?_ ?_ ?_ ?_ ?_)
    all_goals first|exact⟨rfl,rfl⟩|(intro z hz;simp only [List.mem_cons,List.not_mem_nil,or_false]at hz;rcases hz with rfl|rfl|rfl<;>rfl)|(unfold maxLen;omega)|omega|(have h1:=HZ1.o;simp;omega)|(intro i z hz;rcases i with _|_|_|i;(injection hz with hz;subst hz;rw [add0];go_simp);(injection hz with hz;subst hz;rw [add0];go_simp);(injection hz with hz;subst hz;rw [add0];go_simp);cases hz)|skip
    intro u4 w4 hown hgr _;have HO4:=qh (show OwnP w.heap.size w4 u4 (xs++[((a,b),t)]) by unfold OwnP;rw [List.length_append,b6o];exact hown);have HB4:=qh ((HBW.o.alloc HBW.o.size _).grown hgr (by have:=HZ1.o;simp;omega) (λk hk=>(World.ownsRow.lt HOA.o k hk).1));clear hown hgr e0 e1 e2;go_wp2
    go_roundw
    case rel=>exact⟨j+1,xs++[((a,b),t)],by omega,by go_num,by rw [HS2.o,List.length_append,HXL.o];rfl,HO4.o,HB4.o⟩
    case measure=>exact zq
   .have HS2:=qh (HS.o.trans (if_neg ht))
    have f1:t.isEmpty=false:=by cases t with
     |nil=>exact absurd rfl ht
     |cons _ _=>rfl
    simp only [f1];clear ht HS f1;go_wp2
    go_roundw
    case rel=>exact⟨j+1,xs,by omega,by go_num,by rw [HS2.o];exact HXL.o,HOW1.o,HBW.o⟩
    case measure=>exact zq
  .have hjl:j=l.length:=by omega
   subst hjl;have HX2:=qh (show xs.length=P.blank l by rw [HXL.o,List.take_length]);clear hb;go_wp2;go_ret;exact⟨⟨ua,uc,by rw [<-HX2.o];rfl⟩,HB.o⟩
theorem d0f (u:Value) (l:List P.Pc) (w:World) (hu:PcR w u l) (hl60:l.length<=60) :
 Cz 146 #[u] w λe w'=>e=.returned (.int .i64 (P.blank l:Int))/\Bl w w':=by
 have HU:=qh hu
 obtain⟨ad,cap,rfl,hl,_⟩:=hu
 go_enter func146,ntmps146
 go_wp2_with fail
 refine (c5v _ l _ HU.o hl60).mono ?_
 rintro e w1 ⟨⟨ua,uc,rfl⟩,hb⟩
 have HB:=qh hb
 clear hb
 go_wp2
 go_ret
 exact⟨rfl,HB.o⟩
theorem b1z (u:Value) (o:List Int) (w:World) (hu:IntR w u o) (ho:P.a0j o=true) :
 Cz 118 #[u] w λe w'=>e=.returned (.string (S (P.fmtS 47 o)))/\Bl w w':=by
 have HU:=qh hu;have HSL:=qh (P.b1s ho)
 have hs6:=(P.a1h ho).2
 obtain⟨ad,cap,rfl,_,_⟩:=hu
 clear ho
 go_enter func118,ntmps118
 go_wp2
 go_loopw [3,4] (λv i wr=>∃k:Nat,k<=o.length/\i=.int .i64 k/\v=.string (S (P.fmtS 47 (o.take k)))/\Bl w wr) (λ_ i _=>o.length-(intOf i).toNat)
 case atStart=>exact⟨0,Nat.zero_le _,rfl,rfl,Below.refl _ _⟩
 case round=>
  obtain⟨k,hk,rfl,rfl,hbk⟩:=hrel;have HBK:=qh hbk;clear hbk
  by_cases hlt:k<o.length
  .obtain⟨m,hm',hms,hmd⟩:=P.a6p HSL.o hlt;have HM:=qh (show m<2^23 by unfold P.a0q at hms;simp only [decide_eq_true_eq]at hms;omega);obtain⟨g,p,hga,hgl,d0⟩:=(HU.o.below HBK.o).at k hlt;subst hga;rw [hm']at d0;have i1:(k:Int)<(o.length:Int):=by omega
   have hfl:=P.a2z 47 (o.take k);have htk:(o.take k).length=k:=by rw [List.length_take];omega
   have HFM:=qh (P.a6b (m:Int));have hfl2:(P.fmtS 47 (o.take k)).length<=2820:=by rw [htk]at hfl;omega
   clear hfl
   by_cases hk0:k=0
   .subst hk0;have HSN:Hq (P.fmtS 47 (o.take (0+1))=P.fmtS 47 (o.take 0)++P.fmt (m:Int)):=⟨by rw [a0g o 0 hlt,hm'];exact P.c7v 47 (m:Int)⟩;clear hm' hmd hms htk;rw [Nat.add_zero]at d0;generalize P.fmtS 47 (o.take 0)=ff at *
    go_wp2_with fail
    refine (a5m m _ HM.o).mono ?_;rintro e w2 ⟨rfl,hb⟩;have HB2:=bt HBK hb;have hfm:=HFM.o;generalize P.fmt (m:Int)=fm at *;have j1:¬9223372036854775807<ff.length+fm.length:=by omega
    clear hb d0 HBK;go_wp2
    go_roundw
    case rel=>
     repeat apply Exists.intro
     refine⟨?_,rfl⟩;exact⟨0+1,by omega,by go_num,by rw [HSN.o],HB2.o⟩
    case measure=>exact zq
   .have HSN:Hq (P.fmtS 47 (o.take (k+1))=P.fmtS 47 (o.take k)++[47]++P.fmt (m:Int)):=⟨by rw [a0g o k hlt,hm'];exact P.c2r 47 _ _ (λh=>by rw [h]at htk;simp at htk;omega)⟩;have i2:(0:Int)<(k:Int):=by omega
    clear hm' hmd hms;generalize P.fmtS 47 (o.take k)=ff at *;have j0:¬9223372036854775807<ff.length+1:=by omega
    go_wp2_with fail
    refine (a5m m _ HM.o).mono ?_;rintro e w2 ⟨rfl,hb⟩;have HB2:=bt HBK hb;have hfm:=HFM.o;generalize P.fmt (m:Int)=fm at *;have j1:¬9223372036854775807<ff.length+1+fm.length:=by omega
    clear hb d0 HBK;go_wp2
    go_roundw
    case rel=>
     repeat apply Exists.intro
     refine⟨?_,rfl⟩;exact⟨k+1,by omega,by go_num,by rw [HSN.o];simp,HB2.o⟩
    case measure=>exact zq
  .have hkl:k=o.length:=by omega
   subst hkl;have HTL:=qh (List.take_length (l:=o))
   try rw [HTL.o]
   go_wp2;go_ret;exact⟨rfl,HBK.o⟩
def d6n (B C K:Nat) (w:World) (e:Ending) (w':World):Prop:=∃m:Nat,m<2^23/\e=.returned (.int .i64 (m:Int))/\a0d B C K w w'
theorem e1d:∀x∈([524552,260,1048576,262144]:List Int),((x.toNat:Int)==x&&decide (x.toNat<2^23))=true:=by decide
theorem d8m (B C K:Nat) (w:World) (hK:K<2^38) (h:a1k B C K w) :
 Cz 117 #[.pointer (some ⟨C,0,none⟩)] w (d6n B C (K+2) w):=by
 refine zm88 ?_;intro hlt HC HL;clear h;go_enter func117,ntmps117;go_wp2_with fail;refine (b1b B C K w.heap.size 4 [524552,260,1048576,262144] _ oZ dZ dZ sZ oZ HL.o HC.o.1).mono ?_;rintro e w1 ⟨s,hs,rfl,hc⟩;have H1:=qh (HC.o.trans hc);have HS:=qh (e1d s hs);clear hc hs;go_wp2;go_ret;have h1:=HS.o;simp only [Bool.and_eq_true,beq_iff_eq,decide_eq_true_eq]at h1;refine⟨s.toNat,h1.2,?_,H1.o⟩;rw [h1.1];rfl
structure CmSt (B C K:Nat) (w:World) (D lo hi:Nat) (u:Value) (l:P.Dic) (v:World):Prop where
 cur:a0d B C K w v
 bx:DBx D u v
 rd:a5j lo hi v u l
 low:C<lo/\C<D/\D<v.heap.size
theorem CmSt.draw {K':Nat} (h:CmSt B C K w D lo hi u l v) (hc:a0d B C K' v v'):CmSt B C K' w D lo hi u l v':=
 ⟨h.cur.trans hc,h.bx.a0b hc.2 (by have:=h.low;omega),h.rd.chg hc.2 (λb h1 h2 e=>by have:=h.low;omega),h.low.1,h.low.2.1,Nat.lt_of_lt_of_le h.low.2.2 hc.2.size⟩
theorem CmSt.call (h:CmSt B C K w D lo hi u l v) (hb:Bl v v'):CmSt B C K w D lo hi u l v':=
 ⟨h.cur.below hb,h.bx.below hb,h.rd.chg (Below.chg hb (λ_=>False)) (λ_ _ _ h=>h),h.low.1,h.low.2.1,Nat.lt_of_lt_of_le h.low.2.2 hb.size⟩
theorem b0m (B C N lo hi:Nat) (u:Value) (l:P.Dic) (w:World) (hN:N<2^30) (h:a1k B C N w) (hr:a5j lo hi w u l) (hlo:C<lo) (hd:a8c l) :
 Cz 52 #[.pointer (some ⟨C,0,none⟩),.agg #[u]] w (a8s B C (N+300) 700 w):=by
 have hlt:=h.lt
 have hl60:=hd.len
 have HDR:=qh hd
 obtain⟨ad,cap,rfl,_,_⟩:=hr.now
 have hba:=(Below.refl w.heap.size w).alloc lZ (.cells #[.slice ad l.length cap] 26)
 have HM:=qh (show CmSt B C N w w.heap.size lo hi (.slice ad l.length cap) l (w.alloc (.cells #[.slice ad l.length cap] 26)) from⟨(a0d.refl h (Nat.le_refl N)).below hba,DBx.new _ _ _,hr.chg (Below.chg hba (λ_=>False)) (λ_ _ _ h=>h),hlo,hlt.2,by simp⟩)
 clear h hr hba hd
 go_enter func52,ntmps52
 go_upto_region 1 with fail
 generalize w.alloc (.cells #[.slice ad l.length cap] 26)=W0 at *
 obtain⟨b0,_⟩:=HM.o.bx
 go_wp2_with fail
 refine (d3r B C N lo hi _ l _ oZ HM.o.cur.1 HM.o.rd hlo HDR.o).mono ?_
 rintro e w1 ⟨o,y,rfl,hol,hI,hc⟩
 obtain⟨yd,yc,rfl,_,_⟩:=id hI
 have H1:=qh (HM.o.draw hc)
 have HR1:Hq (a6k W0.heap.size w1.heap.size w1 (.slice yd o.length yc) o):=⟨hI.d6i (λb hb=>hb) lZ⟩
 have hzw:C<W0.heap.size:=by have:=HM.o.low;omega
 have hz01:W0.heap.size<=w1.heap.size:=hc.2.size
 clear hI hc HM b0
 go_wp2_with fail
 refine (d2a _ o _ HR1.o.now).mono ?_
 rintro e w2 ⟨rfl,rfl⟩
 have HQ:Hq (∀b,P.a0j o=b->P.a0j o=b):=⟨λ_ h=>h⟩
 generalize hq:P.a0j o=q at *
 go_upto_if 11 with fail
 go_cut [5] (λs wx=>∃(o:List Int) (a:Option Addr) (c:Nat),s=.slice a o.length c/\P.a0j o=true/\a6k W0.heap.size wx.heap.size wx (.slice a o.length c) o/\CmSt B C (N+200) w w.heap.size lo hi (.slice ad l.length cap) l wx)
 case first=>
  cases q
  .have HOW:=qh (World.ownsRow_lit (base:=w1.heap.size) (e:=3) (size:=1) w1 #[.int .i64 1048576] 1 lZ (by unfold maxLen;decide) sZ);have H2:=qh (H1.o.call ((Below.refl w1.heap.size w1).alloc lZ (.cells #[.int .i64 1048576] 3)));clear H1 HR1 hq;go_wp2;go_meet;exact⟨[1048576],_,_,rfl,by decide,(a2h HOW.o dZ).d6i (λb hb=>⟨Nat.le_trans hz01 hb.1,hb.2⟩) lZ,H2.o⟩
  .go_wp2;go_meet;exact⟨o,_,_,rfl,hq,HR1.o,H1.o⟩
 case rest=>
  clear HR1 H1 hq HQ hol;obtain⟨o,a,c,rfl,hok,hri,hst⟩:=hcut;have HOK:=qh hok;have HRI:=qh hri;have H2:=qh hst;have ho6:=(P.a1h hok).2;clear hok hri hst
  go_wp2_with fail
  refine (a0u B C (N+200) 12 _ oZ dZ H2.o.cur.1).mono ?_;rintro e w3 ⟨p,hp,rfl,hc⟩;have hp12:p<12:=by omega
  have H3:=qh (H2.o.draw hc);have HR3:=qh (HRI.o.chg hc.2 (λb h1 h2 e=>by omega));clear hc hp H2 HRI
  match p,hp12 with
  |0,_=>
   exact zq84
  |1,_=>
   exact zq84
  |2,_=>
   exact zq95
  |3,_=>
   exact zq95
  |4,_=>
   go_wp2;go_ret;exact⟨_,rfl,by simp,H3.o.cur.mono oZ⟩
  |5,_=>
   go_wp2_with fail
   refine (b1z _ o _ HR3.o.now HOK.o).mono ?_;rintro e w4 ⟨rfl,hb⟩;have H4:=qh (H3.o.call hb);have hfl:=P.a2z 47 o;clear hb
   go_wp2_with fail
   refine (a8n B C (N+202) _ oZ H4.o.cur.1).mono ?_;rintro e w5 ⟨t,rfl,htl,hc⟩;have H5:=qh (H4.o.draw hc);clear hc;exact d9x
  |6,_=>
   have HL:=qh (a1m [[100,101,108,101,116,101,32],[108,111,111,107,117,112,32]] w3 9);have HCA:=qh (H3.o.call ((Below.refl w3.heap.size w3).alloc lZ (.cells #[.string (S [100,101,108,101,116,101,32]),.string (S [108,111,111,107,117,112,32])] 9)));have hzl:C<w3.heap.size:=by have:=H3.o.low;omega
   go_wp2_with fail
   refine (a4b B C (N+202) w3.heap.size 2 [[100,101,108,101,116,101,32],[108,111,111,107,117,112,32]] _ oZ dZ dZ sZ oZ HL.o HCA.o.cur.1).mono ?_;rintro e w4 ⟨s,hs,rfl,hc⟩;have HR4:=qh ((HR3.o.chg (Below.chg ((Below.refl w3.heap.size w3).alloc lZ (.cells #[.string (S [100,101,108,101,116,101,32]),.string (S [108,111,111,107,117,112,32])] 9)) (λ_=>False)) (λ_ _ _ h=>h)).chg hc.2 (λb h1 h2 e=>by omega));have HS:Hq (s.length<=20):=⟨(by decide:∀s∈([[100,101,108,101,116,101,32],[108,111,111,107,117,112,32]]:List Str),s.length<=20) s hs⟩;have H4:=qh (HCA.o.draw hc);clear hc hs HL HCA
   go_wp2_with fail
   refine (b1z _ o _ HR4.o.now HOK.o).mono ?_;rintro e w5 ⟨rfl,hb⟩;have H5:=qh (H4.o.call hb);have hfl:=P.a2z 47 o;have hsl:=HS.o;clear hb;exact d9x
  |7,_=>
   by_cases hpos:0<l.length
   .have hpi:(0:Int)<(l.length:Int):=by omega
    obtain⟨b0,_⟩:=H3.o.bx;have H3d:=qh (H3.o.call (Below.refl w3.heap.size w3).drew);clear H3 HR3;go_upto_region 19 with fail;refine wp_region_held_drew (S:=DBx w.heap.size (.slice ad l.length cap)) kZ H3d.o.bx (λhS0=>?_);clear b0;generalize w3.drew=v0 at *;refine zm50 ?_;refine trd 6 λK hK=>?_;go_simp;refine (a0u B C (N+202) l.length _ oZ oZ H3d.o.cur.1).mono ?_;rintro e v1 ⟨i,hi',rfl,hc⟩;have hil:i<l.length:=by omega
    have H4:=qh (H3d.o.draw hc);refine hK.out _ _ H4.o.bx (λhS1=>?_);clear hK K hc hi' H3d hS0;obtain⟨g,o2,rfl,hg,x,c0,c1,hx⟩:=H4.o.rd.now.at i hil;clear hx c0;have htl:=HDR.o.texts _ (List.getElem_mem hil);have i1:(i:Int)<(l.length:Int):=by omega
    generalize l[i]=en at *;obtain⟨eo,et⟩:=en;simp only at c1 htl;refine zm0 ?_;refine tk5 7 (v:=.pointer (some ⟨g,o2+i*2,none⟩)) hS1 ?_;refine tk5 8 (v:=.pointer (some ⟨g,o2+i*2+1,none⟩)) hS1 ?_;refine trd 9 λK hK=>?_;go_simp;refine hK.out _ _ hS1 (λhS2=>?_);clear hK K;refine zm0 ?_;have f1:¬9223372036854775807<8+et.length:=by omega
    refine tk5 10 hS2 ?_;refine tk5 11 hS2 ?_;refine wpAnyH_done kZ ?_ _;clear hS1 hS2;exact e1m
   .have hpi:¬(0:Int)<(l.length:Int):=by omega
    obtain⟨b0,_⟩:=H3.o.bx;go_wp2;go_ret;exact⟨_,rfl,by simp,H3.o.cur.mono oZ⟩
  |8,_=>
   go_wp2_with fail
   refine (b9y B C (N+202) _ oZ H3.o.cur.1).mono ?_;rintro e w4 ⟨s,rfl,hsl,hc⟩;have H4:=qh (H3.o.draw hc);clear hc
   go_wp2_with fail
   refine (c9j B C (N+204) _ oZ H4.o.cur.1).mono ?_;rintro e w5 ⟨t,rfl,htl,hc⟩;have H5:=qh (H4.o.draw hc);clear hc;exact d9x
  |9,_=>
   have HL:=qh (a1m [[84,83],[75,65,45,84],[83,45,83],[],[83,84,83],[90,83]] w3 9);have HCA:=qh (H3.o.call ((Below.refl w3.heap.size w3).alloc lZ (.cells #[.string (S [84,83]),.string (S [75,65,45,84]),.string (S [83,45,83]),.string (S []),.string (S [83,84,83]),.string (S [90,83])] 9)));have hzl:C<w3.heap.size:=by have:=H3.o.low;omega
   go_wp2_with fail
   refine (a4b B C (N+202) w3.heap.size 6 [[84,83],[75,65,45,84],[83,45,83],[],[83,84,83],[90,83]] _ oZ dZ dZ sZ oZ HL.o HCA.o.cur.1).mono ?_;rintro e w4 ⟨s,hs,rfl,hc⟩;have HS:Hq (s.length<=20):=⟨(by decide:∀s∈([[84,83],[75,65,45,84],[83,45,83],[],[83,84,83],[90,83]]:List Str),s.length<=20) s hs⟩;have H4:=qh (HCA.o.draw hc);clear hc hs HL HCA;have hsl:=HS.o;exact e1m
  |10,_=>
   have HL:=qh (a1m [[],[119,104,97,116],[112,114,101,115,115],[112,114,101,115,115,32,84,83],[100,101,102,105,110,101,32,75,65,84],[117,110,100,111,32,110,111,119],[106,111,105,110,32,97],[97,62,98],[112,114,101,115,115,32,42],[116,121,112,101,32,42,47,42],[114,101,118,101,114,115,101,32,123],[115,99,114,101,101,110,32]] w3 9);have HCA:=qh (H3.o.call ((Below.refl w3.heap.size w3).alloc lZ (.cells #[.string (S []),.string (S [119,104,97,116]),.string (S [112,114,101,115,115]),.string (S [112,114,101,115,115,32,84,83]),.string (S [100,101,102,105,110,101,32,75,65,84]),.string (S [117,110,100,111,32,110,111,119]),.string (S [106,111,105,110,32,97]),.string (S [97,62,98]),.string (S [112,114,101,115,115,32,42]),.string (S [116,121,112,101,32,42,47,42]),.string (S [114,101,118,101,114,115,101,32,123]),.string (S [115,99,114,101,101,110,32])] 9)));have hzl:C<w3.heap.size:=by have:=H3.o.low;omega
   go_wp2_with fail
   refine (a4b B C (N+202) w3.heap.size 12 [[],[119,104,97,116],[112,114,101,115,115],[112,114,101,115,115,32,84,83],[100,101,102,105,110,101,32,75,65,84],[117,110,100,111,32,110,111,119],[106,111,105,110,32,97],[97,62,98],[112,114,101,115,115,32,42],[116,121,112,101,32,42,47,42],[114,101,118,101,114,115,101,32,123],[115,99,114,101,101,110,32]] _ oZ dZ dZ sZ oZ HL.o HCA.o.cur.1).mono ?_;rintro e w4 ⟨s,hs,rfl,hc⟩;have HS:Hq (s.length<=20):=⟨(by decide:∀s∈([[],[119,104,97,116],[112,114,101,115,115],[112,114,101,115,115,32,84,83],[100,101,102,105,110,101,32,75,65,84],[117,110,100,111,32,110,111,119],[106,111,105,110,32,97],[97,62,98],[112,114,101,115,115,32,42],[116,121,112,101,32,42,47,42],[114,101,118,101,114,115,101,32,123],[115,99,114,101,101,110,32]]:List Str),s.length<=20) s hs⟩;exact zq155
  |11,_=>
   have HL:=qh (a1m [[115,99,114,101,101,110],[99,111,117,110,116],[112,105,101,99,101,115],[115,99,114,101,101,110]] w3 9);have HCA:=qh (H3.o.call ((Below.refl w3.heap.size w3).alloc lZ (.cells #[.string (S [115,99,114,101,101,110]),.string (S [99,111,117,110,116]),.string (S [112,105,101,99,101,115]),.string (S [115,99,114,101,101,110])] 9)));have hzl:C<w3.heap.size:=by have:=H3.o.low;omega
   go_wp2_with fail
   refine (a4b B C (N+202) w3.heap.size 4 [[115,99,114,101,101,110],[99,111,117,110,116],[112,105,101,99,101,115],[115,99,114,101,101,110]] _ oZ dZ dZ sZ oZ HL.o HCA.o.cur.1).mono ?_;rintro e w4 ⟨s,hs,rfl,hc⟩;have HS:Hq (s.length<=20):=⟨(by decide:∀s∈([[115,99,114,101,101,110],[99,111,117,110,116],[112,105,101,99,101,115],[115,99,114,101,101,110]]:List Str),s.length<=20) s hs⟩;exact zq155
end Go.Proofs.YtggfdnopminemaaGreatDoor
