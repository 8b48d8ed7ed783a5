/- Walks: outlines. -/
import Derived.Test.YtggfdnopminemaaGreatDoorTransD
set_option linter.all false
namespace Go.Proofs.YtggfdnopminemaaGreatDoor
open Go.Proofs.Tryz
variable {eo:List Int} {g p:Nat} {l:P.Dic} {et:Str} {u x:Go.Value} {v v' w:Go.World}
section
namespace P
theorem c8p {a b:List Int} {j:Nat} (ha:j<a.length) (hb:j<b.length):cmp (a.drop j) (b.drop j)=if a[j]<b[j] then -1 else if b[j]<a[j] then 1 else cmp (a.drop (j+1)) (b.drop (j+1)):=by
 rw [List.drop_eq_getElem_cons ha,List.drop_eq_getElem_cons hb];rfl
end P
open Go Go.RowKit
set_option maxHeartbeats 8000000
set_option maxRecDepth 100000
theorem c4d (n:Int) (w:World) :
 Cz 191 #[.int .i64 n] w λe w'=>e=.returned (.bool (P.a0q n))/\w=w':=by
 go_enter func191,ntmps191
 go_wp2_with fail
 refine (l1In _ _ _ _).mono ?_
 rintro e w' ⟨rfl,rfl⟩
 go_wp2
 go_ret
 exact⟨a0a (by unfold P.a0q;simp),rfl⟩
theorem d3z (u:Value) (l:List Int) (w:World) (hu:IntR w u l) :
 Cz 116 #[u] w λe w'=>e=.returned (.bool (P.a0k l))/\w=w':=by
 obtain⟨ad,cap,rfl,hl,_,hr⟩:=hu
 have HR:=qh hr;clear hr
 cases h1:decide (1<=(l.length:Int)/\(l.length:Int)<=6)
 .have HF:=qh (show P.a0k l=false by unfold P.a0k;rw [h1];rfl)
  go_enter func116,ntmps116
  go_wp2_with (go_at_call 187;refine (l1In _ _ _ _).mono ?_;rintro e w' ⟨rfl,rfl⟩)
  go_ret;exact⟨a0a HF.o.symm,rfl⟩
 .have hle:=of_decide_eq_true h1;obtain⟨hle1,hle2⟩:=hle;have HF:=qh (show P.a0k l=l.all P.a0q by unfold P.a0k;rw [h1];rfl)
  obtain⟨g,o,rfl,hg,hat⟩:∃g o,ad=some ⟨g,o,none⟩/\g<w.heap.size/\∀(j:Nat) (h:j<l.length),w.cell? ⟨g,o+j,none⟩=some (.int .i64 (l[j]'h)):=by
   rcases HR.o with h|h
   .rw [h]at hle1;exact absurd hle1 dZ
   .exact h
  have HAT:=qh hat;clear hat HR
  go_enter func116,ntmps116
  go_wp2_with (go_at_call 187;refine (l1In _ _ _ _).mono ?_;rintro e w' ⟨rfl,rfl⟩)
  go_loop [3] (λi=>∃j:Nat,j<=l.length/\i=.int .i64 j/\(l.take j).all P.a0q=true) (λi=>l.length-(intOf i).toNat)
  case atStart=>exact⟨0,Nat.zero_le _,rfl,by simp⟩
  case round=>
   obtain⟨j,hj,rfl,ha⟩:=hrel;have HA:=qh ha;clear ha
   by_cases hlt:j<l.length
   .have hc:=HAT.o j hlt;have HSN:=qh (a0g l j hlt);generalize l[j]=x at *
    cases hx:P.a0q x
    .have HNO:=qh (show l.all P.a0q=false by
      rw [<-List.take_append_drop (j+1) l,HSN.o,List.all_append,List.all_append];simp [hx])
     go_wp2_with (go_at_call 191;refine (c4d _ _).mono ?_;rintro e w' ⟨rfl,rfl⟩)
     go_ret;exact⟨a0a (by rw [HF.o,HNO.o]),rfl⟩
    .have HX:=qh hx
     go_wp2_with (go_at_call 191;refine (c4d _ _).mono ?_;rintro e w' ⟨rfl,rfl⟩)
     exact zq154
   .have HT:=qh (show l.all P.a0q=true by have:=HA.o;rwa [List.take_of_length_le oZ]at this);go_wp2;go_ret;exact⟨a0a (by rw [HF.o,HT.o]),rfl⟩
theorem b7e (u v:Value) (a b:List Int) (w:World) (hu:IntR w u a) (hv:IntR w v b) :
 Cz 124 #[u,v] w λe w'=>e=.returned (.int .i64 (P.cmp a b))/\Bl w w':=by
 have HU:=qh hu;have HV:=qh hv
 obtain⟨ad,cap,rfl,hla,_⟩:=hu
 obtain⟨bd,dap,rfl,hlb,_⟩:=hv
 go_enter func124,ntmps124
 go_wp2
 go_loopw [5] (λi wr=>∃j:Nat,j<=a.length/\j<=b.length/\i=.int .i64 j/\P.cmp a b=P.cmp (a.drop j) (b.drop j)/\Bl w wr) (λi _=>a.length-(intOf i).toNat)
 case atStart=>exact⟨0,Nat.zero_le _,Nat.zero_le _,rfl,rfl,Below.refl _ _⟩
 case round=>
  obtain⟨j,hja,hjb,rfl,hc,hb⟩:=hrel;have HC:=qh hc;clear hc;have HB:=qh hb
  by_cases h1:j<a.length
  .by_cases h2:j<b.length
   .obtain⟨g,o,hga,hgl,c0⟩:=(HU.o.below hb).at j h1;obtain⟨g',o',hgb,hgl',d0⟩:=(HV.o.below hb).at j h2;have HST:=qh (P.c8p h1 h2);subst hga hgb;generalize a[j]=x at *;generalize b[j]=y at *;clear hb;have i1:(j:Int)<(a.length:Int):=by omega
    have i2:(j:Int)<(b.length:Int):=by omega
    rcases Int.lt_trichotomy x y with h|h|h
    .have HF:=qh (show P.cmp a b = -1 by rw [HC.o,HST.o,if_pos h])
     go_wp2_with fail
     go_quiet (fail)
     go_wp2;go_ret;exact⟨(by first|(rw [HF.o];done)|(rw [HF.o];rfl)),below_drewN HB.o _⟩
    .have n1:¬x<y:=by omega
     have n2:¬y<x:=by omega
     have HN:=qh (show P.cmp a b=P.cmp (a.drop (j+1)) (b.drop (j+1)) by rw [HC.o,HST.o,if_neg n1,if_neg n2]);clear h
     go_wp2_with fail
     go_quiet (fail)
     go_wp2_with fail
     go_quiet (fail)
     go_wp2
     go_roundw
     case rel=>exact⟨j+1,by omega,by omega,by go_num,HN.o,by first|exact below_drewN (below_drewN HB.o _) _|exact below_drewN HB.o _⟩
     case measure=>exact zq
    .have n1:¬x<y:=by omega
     have HF:=qh (show P.cmp a b=1 by rw [HC.o,HST.o,if_neg n1,if_pos h])
     go_wp2_with fail
     go_quiet (fail)
     go_wp2_with fail
     go_quiet (fail)
     go_wp2;go_ret;exact⟨(by first|(rw [HF.o];done)|(rw [HF.o];rfl)),by first|exact below_drewN (below_drewN HB.o _) _|exact below_drewN HB.o _⟩
   .have hbl:b.length=j:=by omega
    have HF:=qh (show P.cmp a b=1 by
     rw [HC.o,List.drop_eq_getElem_cons h1,List.drop_of_length_le (l:=b) oZ];rfl)
    have k1:¬(j:Int)<(b.length:Int):=by omega
    have k2:¬(a.length:Int)<(b.length:Int):=by omega
    have k3:(b.length:Int)<(a.length:Int):=by omega
    clear hb;exact e2m
  .have k0:¬(j:Int)<(a.length:Int):=by omega
   clear hb
   by_cases h2:j<b.length
   .have HF:=qh (show P.cmp a b = -1 by
     rw [HC.o,List.drop_eq_getElem_cons h2,List.drop_of_length_le (l:=a) oZ];rfl)
    have k2:(a.length:Int)<(b.length:Int):=by omega
    exact e2m
   .have HF:=qh (show P.cmp a b=0 by
     rw [HC.o,List.drop_of_length_le (l:=a) oZ,List.drop_of_length_le (l:=b) oZ];rfl)
    have k2:¬(a.length:Int)<(b.length:Int):=by omega
    have k3:¬(b.length:Int)<(a.length:Int):=by omega
    exact e2m
end
section
open Go Go.RowKit
set_option maxHeartbeats 8000000
set_option maxRecDepth 100000
theorem b6a (u:Value) (l:List Int) (t:Str) (w:World) (hu:IntR w u l) (ht:t.length<=2^30) :
 Cz 123 #[.agg #[u,.string (S t)]] w λe w'=>e=.returned (.bool (P.entry (l,t)))/\Bl w w':=by
 have HU:=qh (hu.below (bZ.alloc lZ (.cells #[u,.string (S t)] 119)))
 obtain⟨ad,cap,rfl,_,_⟩:=hu
 have HF:Hq (P.entry (l,t)=(P.a0k l&&(P.a0o t).2)):=⟨rfl⟩
 go_enter func123,ntmps123
 go_wp2_with fail
 refine (c5w _ _ ht).mono ?_
 rintro e w1 ⟨v,rfl,_,hb⟩
 have HU1:=qh (HU.o.below hb)
 obtain⟨hcc,_⟩:=a6a hb
 have hz:=c5a hb
 have c0:w1.cell? ⟨w.heap.size,0,none⟩=some (.slice ad l.length cap):=by rw [hcc _ _ sZ];go_simp
 have HB:=qh (((Below.refl w.heap.size w).alloc lZ (.cells #[.slice ad l.length cap,.string (S t)] 119)).trans (hb.mono sZ))
 clear hb hcc HU
 generalize (P.a0o t).2=ok at *
 go_wp2_with fail
 refine (d3z _ l _ HU1.o).mono ?_
 rintro e w2 ⟨rfl,rfl⟩
 generalize P.a0k l=o at *
 cases o
 .exact e4f
 .exact e4f
end
section
namespace P
theorem b6w (x y:Ent):∀m:Dic,rising (m++[x,y])=(rising (m++[x])&&decide (cmp x.1 y.1<0))
 |[]=>by simp [rising]
 |[a]=>by simp [rising]
 |a::b::m=>by
  have h:=b6w x y (b::m);simp only [List.cons_append]at h⊢;unfold rising;rw [h,Bool.and_assoc]
theorem c4c {l:Dic} (h:rising l=true) {j:Nat} (hj:j+1<l.length):cmp (l[j]'(by omega)).1 (l[j+1]).1<0:=by
 have:=(a2q l).1 h;rw [List.pairwise_iff_getElem]at this;exact this j (j+1) oZ hj oZ
theorem c6n {l:Dic} {j:Nat} (hj:j+1<l.length) (h:rising (l.take (j+1))=true) (hc:cmp (l[j]'(by omega)).1 (l[j+1]).1<0):rising (l.take (j+2))=true:=by
 have e1:l.take (j+1)=l.take j++[l[j]'(by omega)]:=a0g l j oZ;have e2:l.take (j+2)=l.take (j+1)++[l[j+1]]:=a0g l (j+1) hj;rw [e2,e1,List.append_assoc]
 show rising (l.take j++[l[j]'(by omega),l[j+1]])=true
 rw [b6w,<-e1,h,Bool.true_and,decide_eq_true hc]
end P
open Go Go.RowKit
set_option maxHeartbeats 8000000
set_option maxRecDepth 100000
def KD (w:World) (u:Value) (l:P.Dic) (v:World):Prop:=
 v.cell? ⟨w.heap.size,0,none⟩=some u/\w.heap.size<v.heap.size/\EntR v u l/\Bl w v
theorem KD.step (h:KD w u l v) (hb:Bl v v'):KD w u l v':=by
 obtain⟨h1,h2,h3,h4⟩:=h;exact⟨(hb.cell (p:=⟨w.heap.size,0,none⟩) h2).trans h1,Nat.lt_of_lt_of_le h2 hb.size,h3.below hb,h4.trans (hb.mono oZ)⟩
theorem KD.drew (h:KD w u l v):KD w u l v.drew:=h.step bZ.drew
def K6 (w:World) (u:Value) (l:P.Dic) (g p:Nat) (x:Value) (eo:List Int) (et:Str) (v:World):Prop:=
 v.cell? ⟨w.heap.size,0,none⟩=some u/\v.cell? ⟨g,p,none⟩=some x/\v.cell? ⟨g,p+1,none⟩=some (.string (S et))/\g<v.heap.size/\IntR v x eo/\KD w u l v
theorem K6.step (h:K6 w u l g p x eo et v) (hb:Bl v v'):K6 w u l g p x eo et v':=by
 obtain⟨h1,h2,h3,h4,h5,h6⟩:=h;exact⟨(h6.step hb).1,(hb.cell (p:=⟨g,p,none⟩) h4).trans h2,(hb.cell (p:=⟨g,p+1,none⟩) h4).trans h3,Nat.lt_of_lt_of_le h4 hb.size,h5.below hb,h6.step hb⟩
def K7 (w:World) (u:Value) (l:P.Dic) (g p:Nat) (x:Value) (eo:List Int) (et:Str) (q:Nat) (y:Value) (po:List Int) (v:World):Prop:=
 v.cell? ⟨w.heap.size,0,none⟩=some u/\v.cell? ⟨g,p,none⟩=some x/\v.cell? ⟨g,p+1,none⟩=some (.string (S et))/\v.cell? ⟨g,q,none⟩=some y/\IntR v y po/\K6 w u l g p x eo et v
theorem K7.step {q:Nat} {y:Value} {po:List Int} (h:K7 w u l g p x eo et q y po v) (hb:Bl v v'):K7 w u l g p x eo et q y po v':=by
 obtain⟨h1,h2,h3,h4,h5,h6⟩:=h;exact⟨(h6.step hb).1,(h6.step hb).2.1,(h6.step hb).2.2.1,(hb.cell (p:=⟨g,q,none⟩) h6.2.2.2.1).trans h4,h5.below hb,h6.step hb⟩
theorem b7x (u:Value) (l:P.Dic) (w:World) (hu:EntR w u l) (ht:∀e∈l,e.2.length<=2^30) :
 Cz 57 #[.agg #[u]] w λe w'=>e=.returned (.bool (P.dic l))/\Bl w w':=by
 have K0:KD w u l (w.alloc (.cells #[u] 26)):=⟨by go_simp,by simp,hu.below (bZ.alloc lZ _),bZ.alloc lZ _⟩
 have HT:=qh ht;clear ht
 obtain⟨ad,cap,rfl,hl,_⟩:=hu
 by_cases h40:40<l.length
 .have HF:=qh (show P.dic l=false by unfold P.dic;rw [decide_eq_false oZ];rfl);have h40':(40:Int)<(l.length:Int):=by omega
  go_enter func57,ntmps57
  go_wp2;go_ret;exact⟨a0a HF.o.symm,K0.2.2.2⟩
 .have HF:=qh (show P.dic l=(l.all P.entry&&P.rising l) by unfold P.dic;rw [decide_eq_true oZ];rfl);have h40':¬(40:Int)<(l.length:Int):=by omega
  go_enter func57,ntmps57
  go_wp2_with fail
  go_loopw [3] (λi wr=>∃j:Nat,j<=l.length/\i=.int .i64 j/\(l.take j).all P.entry=true/\P.rising (l.take j)=true/\KD w (.slice ad l.length cap) l wr) (λi _=>l.length-(intOf i).toNat)
  case atStart=>exact⟨0,Nat.zero_le _,rfl,by simp,rfl,K0⟩
  case round=>
   obtain⟨j,hj,rfl,ha,hr,K1⟩:=hrel;clear K0;have HA:=qh ha;have HR:=qh hr;clear ha hr;have HK:=qh K1;obtain⟨d0,dz,hent,hbel⟩:=K1
   by_cases hlt:j<l.length
   .obtain⟨g,o,rfl,hg,x,c0,c1,hx⟩:=hent.at j hlt;have htl:=HT.o _ (List.getElem_mem hlt);have HSN:=qh (a0g l j hlt);have i1:(j:Int)<(l.length:Int):=by omega
    have HS:Hq (K6 w (.slice (some ⟨g,o,none⟩) l.length cap) l g (o+j*2) x l[j].1 l[j].2 wr.drew):=⟨K6.step ⟨d0,c0,c1,hg,hx,HK.o⟩ bZ.drew⟩
    cases hok:P.entry l[j]
    .have HNO:=qh (show l.all P.entry=false by
      rw [<-List.take_append_drop (j+1) l,HSN.o,List.all_append,List.all_append];simp [hok])
     clear hent hbel hx;generalize l[j]=en at *;obtain⟨eo,et⟩:=en;simp only at c1 htl HS;go_upto_region 6 with fail;refine wp_region_held_drew (S:=K6 w (.slice (some ⟨g,o,none⟩) l.length cap) l g (o+j*2) x eo et) kZ HS.o (λhS0=>?_);refine zm65 ?_;refine tk1 3 (v:=.pointer (some ⟨g,o+j*2,none⟩)) hS0 ?_;refine tk1 4 hS0 ?_;refine trd 5 λK hK=>?_;have HS1:=qh hS0;have HX:=qh (hS0.2.2.2.2.1);go_simp;refine (b6a x eo et _ HX.o htl).mono ?_;rintro e v ⟨rfl,hb⟩;rw [hok];refine zm55 ?_;intro hS1;clear hK K hb;refine zm0 ?_;refine tk1 6 hS1 ?_;refine tk1 7 hS1 ?_;refine tks 8 hS1 ?_;refine tks 9 hS1 ?_;refine tks 10 hS1 ?_;refine zm21 ?_;refine zm78 ?_;refine tks 26 hS1 ?_;refine tk1 27 hS1 ?_;refine wpAnyH_done kZ ?_ _;have HB:=qh (hS1.2.2.2.2.2.2.2.2);clear hS0 hS1 HS1;go_wp2;go_ret;exact⟨a0a (by rw [HF.o,HNO.o];rfl),HB.o⟩
    .have HALL2:=qh (show (l.take (j+1)).all P.entry=true by rw [HSN.o,List.all_append,HA.o];simp [hok])
     by_cases hj0:j=0
     .have HR2:=qh (show P.rising (l.take (j+1))=true by rw [HSN.o];subst hj0;rfl);subst hj0;clear hent hbel hx;generalize l[0]=en at *;obtain⟨eo,et⟩:=en;simp only [Nat.zero_mul,Nat.add_zero]at c0 c1 htl HS;go_upto_region 6 with fail;refine wp_region_held_drew (S:=K6 w (.slice (some ⟨g,o,none⟩) l.length cap) l g (o) x eo et) kZ HS.o (λhS0=>?_);refine zm65 ?_;refine tk1 3 (v:=.pointer (some ⟨g,o,none⟩)) hS0 ?_;refine tk1 4 hS0 ?_;refine trd 5 λK hK=>?_;have HS1:=qh hS0;have HX:=qh (hS0.2.2.2.2.1);go_simp;refine (b6a x eo et _ HX.o htl).mono ?_;rintro e v ⟨rfl,hb⟩;rw [hok];refine zm55 ?_;intro hS1;clear hK K hb;refine zm0 ?_;refine tk1 6 hS1 ?_;refine tk1 7 hS1 ?_;refine tk1 8 hS1 ?_;refine tk1 9 hS1 ?_;refine tk1 10 hS1 ?_;refine zm21 ?_;refine zm78 ?_;refine tk1 26 hS1 ?_;refine tk1 27 hS1 ?_;refine wpAnyH_done kZ ?_ _;have HK2:=qh (hS1.2.2.2.2.2);clear hS0 hS1 HS1;go_wp2;go_roundw
      case rel=>exact⟨0+1,by omega,by go_num,HALL2.o,HR2.o,HK2.o⟩
      case measure=>exact zq
     .obtain⟨g',o',hgg,_,y,p0,_,hy⟩:=hent.at (j-1) oZ;injection hgg with hgg;injection hgg with hg1 hg2 _;subst hg1 hg2;have HS':Hq (K7 w (.slice (some ⟨g,o,none⟩) l.length cap) l g (o+j*2) x l[j].1 l[j].2 (o+(j-1)*2) y (l[j-1]'(by omega)).1 wr.drew):=⟨K7.step ⟨d0,c0,c1,p0,hy,K6.step ⟨d0,c0,c1,hg,hx,HK.o⟩ bZ⟩ bZ.drew⟩
      have HCM:=qh (show P.rising (l.take (j+1))=true\/¬P.cmp (l[j-1]'(by omega)).1 l[j].1<0 from by
       by_cases hc:P.cmp (l[j-1]'(by omega)).1 l[j].1<0
       .exact zq125
       .exact .inr hc)
      have HCN:=qh (show ¬P.cmp (l[j-1]'(by omega)).1 l[j].1<0->P.rising l=false from by
       intro hc
       cases hr:P.rising l
       .rfl
       .exfalso
        have:=P.c4c hr (j:=j-1) oZ;exact hc (by simpa [show j-1+1=j by omega] using this))
      have hj1:0<(j:Int):=by omega
      have hj2:1<=(j:Int):=by omega
      have hj3:0<j:=by omega
      have hw1:IntKind.i64.wrap ((j:Int)-1)=(j:Int)-1:=IntWalk.i64_in _ oZ;have hn3:¬(l.length:Int)<=(j:Int)-1:=by omega
      clear hent hbel hx hy HS;generalize (l[j-1]'(by omega)).1=po at *;generalize l[j]=en at *;obtain⟨eo,et⟩:=en;simp only at c1 htl HS' HCM HCN
      rcases Int.lt_or_le (P.cmp po eo) 0 with hc|hc
      .have HR2:=qh (HCM.o.resolve_right λh=>h hc);go_upto_region 6 with fail;refine zm33 ?_;intro hS0 K hK HS1 HX;go_simp;refine (b6a x eo et _ HX.o htl).mono ?_;rintro e v ⟨rfl,hb⟩;rw [hok];refine zm55 ?_;intro hS1;clear hK K hb;refine zm0 ?_;refine zm8 ?_;intro K hK HS2 HY HX2;go_simp;refine (b7e y x po eo _ HY.o HX2.o).mono ?_;rintro e v2 ⟨rfl,hb⟩;refine hK.out _ _ (HS2.o.step hb) (λhS2=>?_);clear hK K hb;refine zm0 ?_;refine tk1 25 hS2 ?_;refine tk1 26 hS2 ?_;refine tk1 27 hS2 ?_;refine wpAnyH_done kZ ?_ _;have HK2:=qh (hS2.2.2.2.2.2.2.2.2.2.2);clear hS0 hS1 hS2 HS1 HS2;go_wp2;go_roundw
       case rel=>exact⟨j+1,by omega,by go_num,HALL2.o,HR2.o,HK2.o⟩
       case measure=>exact zq
      .have HNO:=qh (HCN.o oZ);go_upto_region 6 with fail;refine zm33 ?_;intro hS0 K hK HS1 HX;go_simp;refine (b6a x eo et _ HX.o htl).mono ?_;rintro e v ⟨rfl,hb⟩;rw [hok];refine zm55 ?_;intro hS1;clear hK K hb;refine zm0 ?_;refine zm8 ?_;intro K hK HS2 HY HX2;go_simp;refine (b7e y x po eo _ HY.o HX2.o).mono ?_;rintro e v2 ⟨rfl,hb⟩;refine hK.out _ _ (HS2.o.step hb) (λhS2=>?_);clear hK K hb;refine zm0 ?_;refine tk1 25 hS2 ?_;refine tk1 26 hS2 ?_;refine tk1 27 hS2 ?_;refine wpAnyH_done kZ ?_ _;have HK2:=qh (hS2.2.2.2.2.2.2.2.2.2.2);clear hS0 hS1 hS2 HS1 HS2;go_wp2;go_ret;exact⟨a0a (by rw [HF.o,HNO.o];simp),HK2.o.2.2.2⟩
   .have hjl:j=l.length:=by omega
    subst hjl;have h1:=HA.o;have h2:=HR.o;rw [List.take_length]at h1 h2;have HD:=qh (show P.dic l=true by rw [HF.o,h1,h2];rfl);clear h1 h2 hent;go_wp2;go_ret;exact⟨a0a HD.o.symm,hbel⟩
end
end Go.Proofs.YtggfdnopminemaaGreatDoor
