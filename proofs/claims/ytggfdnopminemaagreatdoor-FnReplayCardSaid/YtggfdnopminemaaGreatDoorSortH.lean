/- Walks: symMerge, in. -/
import Derived.Test.YtggfdnopminemaaGreatDoorSortG
import Derived.Test.YtggfdnopminemaaGreatDoorCurD
set_option linter.all false
namespace Go.Proofs.YtggfdnopminemaaGreatDoor
open Go.Proofs.Tryz
variable {a b c n q s t:Nat} {l:P.Dic}
section
open Go Go.RowKit
set_option maxHeartbeats 8000000
set_option maxRecDepth 100000
theorem a8n {m e:Nat} (h:¬(s<m/\m<e)) (h1:s<=m) (h2:m<=e) (k:Nat):roIx s m e k=k:=by
 unfold roIx
 repeat' split
 all_goals omega
theorem merge_join {l l1 l2 l3:List It} (h1:a0l a b l l1) (hs:Split a c b l1) (h2:a0l a c l1 l2) (s2:a0c a c l2) (h3:a0l c b l2 l3) (s3:a0c c b l3) (hac:a<=c) (hcb:c<=b):a0l a b l l3/\a0c a b l3:=
 ⟨(h1.trans (h2.mono lZ hcb)).trans (h3.mono hac lZ),((hs.left h2).right h3).sorted (s2.same h3 (.inl lZ)) s3⟩
def c8h (n:Nat):Prop:=∀(its:List It) (F:Blk) (g o cap a m b:Nat) (w:World),b-a<=n->RowI w F g o its->its.length<=2^30->a<m->m<b->b<=its.length->a0c a m its->a0c m b its ->
 Cz 259 #[.slice (some ⟨g,o,none⟩) its.length cap,.int .i64 a,.int .i64 m,.int .i64 b,byF] w (b3a its F g o a b w)
theorem d6q (n:Nat) (IH:c8h n) (its:List It) (F:Blk) (g o cap a m b:Nat) (w:World) (hn:b-a<=n+1) (h:RowI w F g o its) (hl:its.length<=2^30) (ha1:a+1<m) (hb1:m+1<b) (hb:b<=its.length) (h1:a0c a m its) (h2:a0c m b its) :
 Cz 259 #[.slice (some ⟨g,o,none⟩) its.length cap,.int .i64 a,.int .i64 m,.int .i64 b,byF] w (b3a its F g o a b w):=by
 have HH:=qh h;have HS1:=qh h1;have HS2:=qh h2;have HI:=qh IH;clear h h1 h2 IH
 have hd1:((m:Int)-(a:Int)==1)=false:=by rw [beq_eq_false_iff_ne];omega
 have hd2:((b:Int)-(m:Int)==1)=false:=by rw [beq_eq_false_iff_ne];omega
 obtain⟨c,hmid⟩:∃c:Nat,(a+b) / 2=c:=⟨_,rfl⟩
 have hmi:((a:Int)+(b:Int)) / 2=(c:Int):=by omega
 have hmd1:a<c:=by omega
 have hmd2:c<b:=by omega
 have hmd3:a+b<=2*c+1:=by omega
 have hmd4:2*c<=a+b:=by omega
 clear hmid
 by_cases hmm:c<m
 .skip;have hmm':(c:Int)<(m:Int):=by omega
  have HZ:=qh (show (c:Int)+(m:Int)-(b:Int)=((c+m-b:Nat):Int) by omega)
  go_enter func259,ntmps259
  go_wp2_with fail
  go_loopw [20,21] (λx y wr=>∃j r:Nat,(c+m-b)<=j/\j<=r/\r<=c/\x=.int .i64 j/\y=.int .i64 r/\Bin its c m (c+m-b) c j r/\RowI wr F g o its/\Chg (λb=>b=g) w wr) (λx y _=>(intOf y).toNat-(intOf x).toNat)
  case atStart=>exact⟨(c+m-b),c,Nat.le_refl _,by omega,Nat.le_refl _,by first|rfl|go_num,by first|rfl|go_num,Bin.start its c m (c+m-b) c,HH.o,Chg.refl _ _⟩
  case round=>
   obtain⟨j,r,hj1,hjr,hr1,rfl,rfl,hbin,hr,hch⟩:=hrel;have HBI:=qh hbin;have HR:=qh hr;have HC:=qh hch;clear hbin hr hch HH
   by_cases hlt:j<r
   .exact zq5
   .have hjm:r=j:=by omega
    subst hjm;obtain⟨en,hen⟩:∃en:Nat,c+m-r=en:=⟨_,rfl⟩;have hrng:en<=b/\m<=en/\r<=m/\r<=c/\a<=r/\c<=en:=by omega
    obtain⟨hr2,hr3,hr4,hr5,hr6,hr7⟩:=hrng;have hei:(c:Int)+(m:Int)-(r:Int)=(en:Int):=by omega
    have hwe:IntKind.i64.wrap (en:Int)=(en:Int):=IntWalk.i64_in _ oZ;have HDONE:Hq (∀l',a2d its l' (roIx r m en)->a0l a b its l'/\Split a c b l'/\a0c a r l'/\a0c r c l'/\a0c c en l'/\a0c en b l'):=⟨λl' hm=>by rw [<-hen]at hm⊢;exact HBI.o.done HS1.o HS2.o hb oZ (by left;exact⟨by omega,rfl,rfl⟩) oZ hmd2 hmd3 hmd4 hj1 hr1 hm⟩;exact zq0
 .skip;have hmm':¬(c:Int)<(m:Int):=by omega
  go_enter func259,ntmps259
  go_wp2_with fail
  go_loopw [20,21] (λx y wr=>∃j r:Nat,a<=j/\j<=r/\r<=m/\x=.int .i64 j/\y=.int .i64 r/\Bin its c m a m j r/\RowI wr F g o its/\Chg (λb=>b=g) w wr) (λx y _=>(intOf y).toNat-(intOf x).toNat)
  case atStart=>exact⟨a,m,Nat.le_refl _,by omega,Nat.le_refl _,by first|rfl|go_num,by first|rfl|go_num,Bin.start its c m a m,HH.o,Chg.refl _ _⟩
  case round=>
   obtain⟨j,r,hj1,hjr,hr1,rfl,rfl,hbin,hr,hch⟩:=hrel;have HBI:=qh hbin;have HR:=qh hr;have HC:=qh hch;clear hbin hr hch HH
   by_cases hlt:j<r
   .exact zq5
   .have hjm:r=j:=by omega
    subst hjm;obtain⟨en,hen⟩:∃en:Nat,c+m-r=en:=⟨_,rfl⟩;have hrng:en<=b/\m<=en/\r<=m/\r<=c/\a<=r/\c<=en:=by omega
    obtain⟨hr2,hr3,hr4,hr5,hr6,hr7⟩:=hrng;have hei:(c:Int)+(m:Int)-(r:Int)=(en:Int):=by omega
    have hwe:IntKind.i64.wrap (en:Int)=(en:Int):=IntWalk.i64_in _ oZ;have HDONE:Hq (∀l',a2d its l' (roIx r m en)->a0l a b its l'/\Split a c b l'/\a0c a r l'/\a0c r c l'/\a0c c en l'/\a0c en b l'):=⟨λl' hm=>by rw [<-hen]at hm⊢;exact HBI.o.done HS1.o HS2.o hb oZ (by right;exact⟨by omega,rfl,rfl⟩) oZ hmd2 hmd3 hmd4 hj1 hr1 hm⟩;exact zq0
end
theorem a8g:∀n,c8h n
 |0=>λits F g o cap a m b w hn _ _ ham hmb=>by omega
 |n+1=>λits F g o cap a m b w hn h hl ham hmb hb h1 h2=>by
  by_cases e1:m=a+1
  .exact e0y its F g o cap a m b w h hl e1 hmb hb h2
  .by_cases e2:b=m+1
   .exact d8d its F g o cap a m b w h hl oZ e2 hb h1
   .exact d6q n (a8g n) its F g o cap a m b w hn h hl oZ oZ hb h1 h2
section
def RunD (t c:Nat) (l:List It):Prop:=∀i,i*t+t<=c->a0c (i*t) (i*t+t) l
def RunR (t c n:Nat) (l:List It):Prop:=∀i,c<=i*t->a0c (i*t) (min (i*t+t) n) l
theorem a0c.mono {a' b':Nat} {l:List It} (h:a0c a b l) (ha:a<=a') (hb:b'<=b):a0c a' b' l:=
 λi j x y h1 h2 h3=>h i j x y oZ h2 oZ
theorem RunD.zero (ht:0<t) (l:List It):RunD t 0 l:=λi h=>absurd h oZ
theorem RunD.end {l:List It} (hq:c=q*t) (hd:RunD t c l) (hs:a0c c n l):RunR t 0 n l:=by
 intro i _
 by_cases h:i*t+t<=c
 .exact (hd i h).mono lZ (Nat.min_le_left _ _)
 .have hqi:q<=i:=by
   exact zq164
  have:=Nat.mul_le_mul_right t hqi;exact hs.mono oZ (Nat.min_le_right _ _)
theorem RunD.next {l m:List It} (hq:c=q*t) (hd:RunD t c l) (hp:a0l c (c+t) l m) (hs:a0c c (c+t) m):RunD t (c+t) m:=by
 intro i hi
 by_cases h:i*t+t<=c
 .exact (hd i h).same hp (.inl h)
 .have hqi:q<=i:=by
   exact zq164
  have h1:=Nat.mul_le_mul_right t hqi;exact hs.mono oZ oZ
theorem RunD.past {l m:List It} (hd:RunD t c l) (hp:a0l c n l m):RunD t c m:=λi hi=>(hd i hi).same hp (.inl hi)
theorem RunR.past {d:Nat} {l m:List It} (hd:RunR t c n l) (hp:a0l c d l m) (hcd:c<=d):RunR t d n m:=λi hi=>(hd i oZ).same hp (.inr hi)
theorem mul2 (q s:Nat):q*(2*s)=2*q*s/\q*(2*s)+s=(2*q+1)*s:=by
 constructor
 .rw [Nat.mul_comm 2 q,Nat.mul_assoc]
 .rw [Nat.add_mul,Nat.one_mul,Nat.mul_comm 2 q,Nat.mul_assoc]
theorem RunR.two {l:List It} (h:RunR s c n l) (hq:c=q*(2*s)):a0c c (min (c+s) n) l/\a0c (c+s) (min (c+2*s) n) l:=by
 obtain⟨e1,e2⟩:=mul2 q s
 constructor
 .have:=h (2*q) oZ
  rwa [<-e1,<-hq]at this
 .have:=h (2*q+1) oZ
  rwa [<-e2,<-hq,show c+s+s=c+2*s by omega]at this
open Go Go.RowKit
set_option maxHeartbeats 8000000
set_option maxRecDepth 100000
theorem c7v (its:List It) (F:Blk) (g o cap:Nat) (w:World) (h:RowI w F g o its) (hl:its.length<=2^30) :
 Cz 203 #[.slice (some ⟨g,o,none⟩) its.length cap,.int .i64 its.length,byF] w λe w'=>e=.returned (.tuple #[])/\∃its',a0l 0 its.length its its'/\a0c 0 its.length its'/\RowI w' F g o its'/\Chg (λb=>b=g) w w':=by
 have HH:=qh h;clear h
 obtain⟨n,hn⟩:∃n,its.length=n:=⟨_,rfl⟩
 rw [hn]at hl⊢
 go_enter func203,ntmps203
 go_wp2_with fail
 go_loopw [7,8] (λi k wr=>∃(a q:Nat) (m:List It),a<=n/\a=q*20/\i=.int .i64 a/\k=.int .i64 (a+20:Nat)/\a0l 0 n its m/\RunD 20 a m/\RowI wr F g o m/\Chg (λb=>b=g) w wr) (λ_ k _=>n+20-(intOf k).toNat)
 case atStart=>exact⟨0,0,its,Nat.zero_le _,rfl,rfl,rfl,a0l.refl _ _ _,RunD.zero dZ _,HH.o,Chg.refl _ _⟩
 case round=>
  clear HH;obtain⟨a,q,m,ha,hq,rfl,rfl,hp,hd,hr,hc⟩:=hrel;have hlm:=hp.len;rw [hn]at hlm;have HP:=qh hp;have HD:=qh hd;have HR:=qh hr;have HC:=qh hc;have HQ:=qh hq;clear hp hd hr hc hq
  by_cases hlt:a+20<=n
  .have i1:((a+20:Nat):Int)<=(n:Int):=by omega
   have hI:=b0t m F g o cap a (a+20) wr HR.o oZ oZ oZ;rw [hlm]at hI;have HIN:=qh hI;clear hI hlm
   go_wp2_with fail
   refine HIN.o.mono ?_;rintro e w2 ⟨rfl,m2,hp2,hs2,hr2,hc2⟩;have HP2:=qh (HP.o.trans (hp2.mono (Nat.zero_le _) hlt));have HD2:=qh (HD.o.next HQ.o hp2 hs2);have HR2:=qh hr2;have HC2:=qh (HC.o.trans hc2);clear hp2 hs2 hr2 hc2;go_wp2
   go_roundw
   case rel=>exact⟨a+20,q+1,m2,hlt,by have:=HQ.o;omega,rfl,by go_num,HP2.o,HD2.o,HR2.o,HC2.o⟩
   case measure=>exact zq
  .have i1:¬((a+20:Nat):Int)<=(n:Int):=by omega
   have hI:=b0t m F g o cap a n wr HR.o oZ ha oZ;rw [hlm]at hI;have HIN:=qh hI;clear hI hlm
   go_wp2_with fail
   refine HIN.o.mono ?_;rintro e w2 ⟨rfl,m2,hp2,hs2,hr2,hc2⟩;have HP2:=qh (HP.o.trans (hp2.mono (Nat.zero_le _) lZ));have HRR:=qh (RunD.end HQ.o (HD.o.past hp2) hs2);have HR2:=qh hr2;have HC2:=qh (HC.o.trans hc2);clear hp2 hs2 hr2 hc2 i1 hlt HP HD HR HC HQ HIN
   go_wp2_with fail
   go_loopw [6] (λk wr=>∃(s:Nat) (m:List It),20<=s/\s<=2^47/\k=.int .i64 s/\a0l 0 n its m/\RunR s 0 n m/\RowI wr F g o m/\Chg (λb=>b=g) w wr) (λk _=>n-(intOf k).toNat)
   case atStart=>exact⟨20,m2,Nat.le_refl _,by omega,rfl,HP2.o,HRR.o,HR2.o,HC2.o⟩
   case round=>
    clear HP2 HRR HR2 HC2;obtain⟨s,m3,hs1,hs2,rfl,hp,hd,hr,hc⟩:=hrel;have HP:=qh hp;have HD:=qh hd;have HR:=qh hr;have HC:=qh hc;clear hp hd hr hc
    by_cases hsl:s<n
    .have i1:(s:Int)<(n:Int):=by omega
     obtain⟨wo,hwo⟩:∃wo:World,wo=wr:=⟨_,rfl⟩;subst hwo
     go_wp2_with fail
     go_loopw [7,8] (λi k wr=>∃(c q:Nat) (m:List It),c<=n/\c=q*(2*s)/\i=.int .i64 c/\k=.int .i64 (c+2*s:Nat)/\a0l 0 n its m/\RunD (2*s) c m/\RunR s c n m/\RowI wr F g o m/\Chg (λb=>b=g) w wr) (λ_ k _=>n+2*s-(intOf k).toNat)
     case atStart=>exact⟨0,0,m3,Nat.zero_le _,by rw [Nat.zero_mul],rfl,by go_num,HP.o,RunD.zero oZ _,HD.o,HR.o,HC.o⟩
     case round=>
      clear HP HD HR HC;obtain⟨c,q,m,hc,hq,rfl,rfl,hp,hd,hrr,hr,hcc⟩:=hrel;have hlm:=hp.len;rw [hn]at hlm;obtain⟨t1,t2⟩:=hrr.two hq;have HP:=qh hp;have HD:=qh hd;have HRR:=qh hrr;have HR:=qh hr;have HC:=qh hcc;have HQ:=qh hq;have HT1:=qh t1;have HT2:=qh t2;clear hp hd hrr hr hcc hq t1 t2;have e1:(c:Int)+(s:Int)=((c+s:Nat):Int):=by omega
      have HE1:=qh e1;clear e1
      by_cases hcl:c+2*s<=n
      .have i2:((c+2*s:Nat):Int)<=(n:Int):=by omega
       have hI:=a8g m.length m F g o cap c (c+s) (c+2*s) wr oZ HR.o oZ oZ oZ oZ (HT1.o.mono lZ oZ) (HT2.o.mono lZ oZ);rw [hlm]at hI;have HIN:=qh hI;clear hI hlm
       go_wp2_with fail
       rw [HE1.o];refine HIN.o.mono ?_;rintro e w2 ⟨rfl,m2,hp2,hs2,hr2,hc2⟩;have HP2:=qh (HP.o.trans (hp2.mono (Nat.zero_le _) hcl));have HD2:=qh (HD.o.next HQ.o hp2 hs2);have HRR2:=qh (HRR.o.past hp2 oZ);have HR2:=qh hr2;have HC2:=qh (HC.o.trans hc2);have HQ2:=qh (show c+2*s=(q+1)*(2*s) by rw [Nat.add_mul,Nat.one_mul,<-HQ.o]);clear hp2 hs2 hr2 hc2;go_wp2
       go_roundw
       case rel=>exact⟨c+2*s,q+1,m2,hcl,HQ2.o,rfl,by go_num,HP2.o,HD2.o,HRR2.o,HR2.o,HC2.o⟩
       case measure=>exact zq
      .have i2:¬((c+2*s:Nat):Int)<=(n:Int):=by omega
       by_cases hm:c+s<n
       .have i3:(c:Int)+(s:Int)<(n:Int):=by omega
        have hI:=a8g m.length m F g o cap c (c+s) n wr oZ HR.o oZ oZ hm oZ (HT1.o.mono lZ oZ) (HT2.o.mono lZ oZ);rw [hlm]at hI;have HIN:=qh hI;clear hI hlm
        go_wp2_with fail
        rw [HE1.o];refine HIN.o.mono ?_;rintro e w2 ⟨rfl,m2,hp2,hs2,hr2,hc2⟩;have HP2:=qh (HP.o.trans (hp2.mono (Nat.zero_le _) lZ));have HRR2:=qh (RunD.end HQ.o (HD.o.past hp2) hs2);have HR2:=qh hr2;have HC2:=qh (HC.o.trans hc2);clear hp2 hs2 hr2 hc2 i2 i3;go_wp2
        go_roundw
        case rel=>exact⟨2*s,m2,by omega,by omega,by go_num,HP2.o,HRR2.o,HR2.o,HC2.o⟩
        case measure=>exact zq
       .have i3:¬(c:Int)+(s:Int)<(n:Int):=by omega
        have HRR2:=qh (RunD.end (n:=n) HQ.o HD.o (HT1.o.mono lZ oZ));go_wp2
        go_roundw
        case rel=>exact⟨2*s,m,by omega,by omega,by go_num,HP.o,HRR2.o,HR.o,HC.o⟩
        case measure=>exact zq
    .have i1:¬(s:Int)<(n:Int):=by omega
     have HS:=qh (show a0c 0 n m3 by have:=HD.o 0 oZ;rw [Nat.zero_mul,Nat.zero_add]at this;exact this.mono lZ oZ);go_wp2
     go_end0
     exact⟨rfl,m3,HP.o,HS.o,HR.o,HC.o⟩
def P.le (a b:P.Ent):Prop:=P.cmp a.1 b.1<=0
theorem c6f {its:List It} (h:a0c 0 its.length its):(its.map (·.e)).Pairwise P.le:=by
 rw [List.pairwise_map,List.pairwise_iff_getElem];intro i j hi hj hij;exact h i j _ _ (Nat.zero_le _) hij hj (List.getElem?_eq_getElem hi) (List.getElem?_eq_getElem hj)
def e1b (F:Blk) (u:Value) (l:P.Dic) (w:World) (e:Ending) (w':World):Prop:=
 e=.returned (.tuple #[])/\∃m:P.Dic,m.Perm l/\m.Pairwise P.le/\Ents w' F u m/\Chg F w w'
theorem b7t (u:Value) (l:P.Dic) (F:Blk) (w:World) (hu:Ents w F u l) :
 Cz 131 #[u,byF] w (e1b F u l w):=by
 by_cases hne:l=[]
 .subst hne;obtain⟨ad,cap,e0,_⟩:=hu.read;have HU:=qh hu;rw [e0];refine (b8o ad cap w).mono ?_;rintro e w2 ⟨rfl,hb⟩;exact⟨rfl,[],List.Perm.refl _,List.Pairwise.nil,e0 ▸ HU.o.below a0f hb,Below.chg hb F⟩
 .obtain⟨ad,cap,rfl,hl,hcp,hrow0⟩:=hu;obtain⟨g,o,G,C,rfl,hrow⟩:=hrow0.resolve_left hne;clear hrow0;obtain⟨its,rfl,hr⟩:=RowI.of hrow;have hFg:=qh hrow.own;rw [List.length_map]at hl hcp⊢;have HR:=qh hr;have HCP:=qh hcp;clear hrow hr hcp
  go_enter func131,ntmps131
  go_wp2_with fail
  refine (c7v its F g o cap _ HR.o hl).mono ?_;rintro e w2 ⟨rfl,m,hp,hs,hr,hc⟩;have HP:=qh hp;have HS:=qh hs;have HR2:=qh hr;have HC:=qh hc;clear hp hs hr hc HR;go_wp2
  go_end0
  have hlen:=HP.o.len;obtain⟨G',C',hrow'⟩:=HR2.o.to;refine⟨rfl,m.map (·.e),HP.o.perm.map _,c6f (by rw [hlen];exact HS.o),⟨_,cap,by rw [List.length_map,hlen],by rw [List.length_map,hlen];exact hl,⟨by rintro⟨⟩,by rw [List.length_map,hlen];exact HCP.o.2⟩,.inr ⟨g,o,G',C',rfl,hrow'⟩⟩,HC.o.mono λb _ hb=>by subst hb;exact hFg.o⟩
end
section
open Go Go.RowKit
set_option maxHeartbeats 8000000
set_option maxRecDepth 100000
def d0u (l:P.Dic) (w:World) (e:Ending) (w':World):Prop:=∃m:P.Dic,m.Perm l/\m.Pairwise P.le/\b8c m w e w'
theorem b3w (u:Value) (l:P.Dic) (w:World) (hu:EntR w u l) (hl:l.length<=2^20) (hle:∀e∈l,e.1.length<=2^20) :
 Cz 63 #[u] w (d0u l w):=by
 obtain⟨i0,hi,hz0,hz1,hz2⟩:=info_parts a5i
 have HU:=qh hu
 have HLE:=qh hle;clear hle
 have hB0:Bl w ((w.alloc (.cells #[.slice none 0 0] 26)).alloc (.cells #[] 119)):=((Below.refl w.heap.size w).alloc lZ _).alloc sZ _
 have HB0:=qh hB0;clear hB0
 have HA0:=qh (show Acc 119 2 entE (w.heap.size+1) ((w.alloc (.cells #[.slice none 0 0] 26)).alloc (.cells #[] 119)) (.slice (some ⟨w.heap.size+1,0,none⟩) 0 0) [] [] from
  Acc.nil (by have h:=World.ownsRow_lit (base:=w.heap.size+1) (e:=119) (size:=2) (w.alloc (.cells #[.slice none 0 0] 26)) #[] 0 sZ (Nat.zero_le _) sZ;simpa using h) sZ)
 have r0:((w.alloc (.cells #[.slice none 0 0] 26)).alloc (.cells #[] 119)).cell? ⟨w.heap.size,0,none⟩=some (.slice none 0 0):=by go_simp
 have s0:((w.alloc (.cells #[.slice none 0 0] 26)).alloc (.cells #[] 119)).frozen? ⟨w.heap.size,0,none⟩=false:=by go_simp
 have R0:=qh r0;have S0:=qh s0
 clear r0 s0
 obtain⟨ad,cap,rfl,_,_⟩:=hu
 go_enter func63,ntmps63
 go_wp2_with fail
 go_loopw [3,9] (λs i wr=>∃(j:Nat) (xs:List Value),j<=l.length/\i=.int .i64 j/\wr.cell? ⟨w.heap.size,0,none⟩=some (.slice none 0 0)/\wr.frozen? ⟨w.heap.size,0,none⟩=false/\Acc 119 2 entE (w.heap.size+1) wr s (l.take j) xs/\Bl w wr) (λ_ i _=>l.length-(intOf i).toNat)
 case atStart=>exact⟨0,[],Nat.zero_le _,rfl,R0.o,S0.o,HA0.o,HB0.o⟩
 case round=>
  obtain⟨j,xs,hj,rfl,r0,s0,hacc,hb⟩:=hrel;clear HA0 R0 S0 HB0;have HBZ:=qh (show w.heap.size+1<=wr.heap.size by obtain⟨_,_,_,_,h,_⟩:=hacc;exact h);have hlt0:(l.take j).length=j:=by rw [List.length_take];omega
  have HA:=qh hacc;have HB:=qh hb;have HL0:=qh hlt0;obtain⟨uad,ucap,hu'⟩:=hacc.form;rw [hlt0]at hu';subst hu';clear hlt0 hacc
  by_cases hlt:j<l.length
  .obtain⟨g,o,hga,hgs,x,c0,c1,hx⟩:=(HU.o.below hb).at j hlt;have HEN:=qh (a0g l j hlt);have hll:=HLE.o _ (List.getElem_mem hlt);have hba:=(Below.refl wr.heap.size wr).alloc lZ (.cells #[x,.string (S l[j].2)] 119);have HX:=qh (hx.below hba);have HBA:=qh hba;have HR:=qh ((hba.cell (p:=⟨w.heap.size,0,none⟩) (by have:=HBZ.o;show w.heap.size<_;omega)).trans r0);have HSF:=qh ((hba.frozen (p:=⟨w.heap.size,0,none⟩) (by have:=HBZ.o;show w.heap.size<_;omega)).trans s0);obtain⟨xd,xc,rfl,_,_⟩:=hx;subst hga;generalize l[j]=en at *;obtain⟨eo,et⟩:=en;simp only at hll HX HBA HR HSF c1;have i1:(j:Int)<(l.length:Int):=by omega
   clear hb hba r0 s0;go_wp2_with fail;refine (copied _ eo et _ HX.o oZ).mono ?_;rintro e v1 ⟨x1,rfl,hI,hb1⟩;have hzz:wr.heap.size+1<=v1.heap.size:=by have:=hb1.size;simp at this;omega
   have HZ1:=qh hzz;have HB1:Hq (Bl wr v1):=⟨HBA.o.trans (hb1.mono sZ)⟩;have HI:=qh hI;have HR1:=qh ((hb1.cell (p:=⟨w.heap.size,0,none⟩) (by have:=HBZ.o;simp;omega)).trans HR.o);have HF1:=qh ((hb1.frozen (p:=⟨w.heap.size,0,none⟩) (by have:=HBZ.o;simp;omega)).trans HSF.o);obtain⟨x1d,x1c,rfl,_,_⟩:=hI;clear hb1;refine zm52 ?_;intro HA2;have HOW:=qh (show (v1.alloc (.cells #[.slice x1d eo.length x1c,.string (S et)] 119)).ownsRow (w.heap.size+1) 119 2 (.slice uad j ucap) j xs by have:=HA2.o.owns;rwa [HL0.o]at this);go_wp2_with (at_builtin;refine wpList_append_lies _ rfl _ _ 24 rfl (w.heap.size+1) 119 i0 (.agg #[.slice none 0 0,.string ⟨#[]⟩]) 2 40 underlying24 hi hz0 hz1 hz2 rfl dZ (.slice uad j ucap) j xs rfl HOW.o ⟨v1.heap.size,0,none⟩ 1 1 [.slice x1d eo.length x1c,.string (S et)] rfl rfl ?_ ?_ (Nat.zero_lt_one) ?_ ?_ ?_ _ rfl ?_)
   .exact zq24
   .intro y hy;exact zq38
   .unfold maxLen;omega
   .omega
   .have h1:=HZ1.o;have h2:=HBZ.o;simp;omega
   intro g1 cap1 v3 hown hgr hat hlt3
   have HB3:=qh (show Below (w.heap.size+1) (v1.alloc (.cells #[.slice x1d eo.length x1c,.string (S et)] 119)) v3 from
    bZ.grown hgr (by have h1:=HZ1.o;have h2:=HBZ.o;simp;omega) (λk hk=>(World.ownsRow.lt HA2.o.owns k hk).1))
   refine zm10 ?_;intro HAC hb2 HBW
   have HR3:=qh (show v3.cell? ⟨w.heap.size,0,none⟩=some (.slice none 0 0) from
    (HB3.o.cell (p:=⟨w.heap.size,0,none⟩) (by show w.heap.size<w.heap.size+1;omega)).trans ((((Below.refl (w.heap.size+1) v1).alloc (by have h1:=HZ1.o;have h2:=HBZ.o;omega) _).cell (p:=⟨w.heap.size,0,none⟩) (by show w.heap.size<w.heap.size+1;omega)).trans HR1.o))
   have HF3:=qh (show v3.frozen? ⟨w.heap.size,0,none⟩=false from
    (HB3.o.frozen (p:=⟨w.heap.size,0,none⟩) (by show w.heap.size<w.heap.size+1;omega)).trans ((((Below.refl (w.heap.size+1) v1).alloc (by have h1:=HZ1.o;have h2:=HBZ.o;omega) _).frozen (p:=⟨w.heap.size,0,none⟩) (by show w.heap.size<w.heap.size+1;omega)).trans HF1.o))
   clear hown hgr hat hlt3 hb2 hzz;go_wp2
   go_roundw
   case rel=>exact⟨j+1,_,by omega,by go_num,HR3.o,HF3.o,by rw [HEN.o];have h:=HAC.o;rw [HL0.o]at h;exact h,HBW.o⟩
   case measure=>exact zq
  .have hjl:l.length=j:=by omega
   refine zm90 ?_;intro HT;have HROW:Hq (Ents wr (Bet (w.heap.size+1) wr.heap.size) (.slice uad j ucap) l):=⟨by have h:=HA.o;rw [HT.o]at h;exact h.row oZ⟩;clear hb;go_wp2_with fail;refine (b7t _ l _ _ HROW.o).mono ?_;rintro e v1 ⟨rfl,m,hpm,hsm,hrm,hcm⟩;have hnf:∀b,b=w.heap.size->¬Bet (w.heap.size+1) wr.heap.size b:=by intro b hb hc;have:=hc.1;omega
   have r1:=(hcm.cell (p:=⟨w.heap.size,0,none⟩) (by have:=HBZ.o;show w.heap.size<_;omega) (hnf _ rfl)).trans r0;have s1:=(hcm.frozen (p:=⟨w.heap.size,0,none⟩) (by have:=HBZ.o;show w.heap.size<_;omega) (hnf _ rfl)).trans s0;have HR:=qh hrm;have HPM:=qh hpm;have HSM:=qh hsm;have HBW:=qh (HB.o.trans (hcm.below (B:=w.heap.size) HB.o.size (λb hb=>by have:=hb.1;omega)));have HZ:=qh hcm.size;clear hrm hpm hsm hcm r0 s0 HROW;go_wp2;refine bodyPost_ret (v:=.agg #[.slice uad j ucap]) (by simp [results,results63,go_sem,r1]) rfl ⟨m,HPM.o,HSM.o,_,rfl,?_,HBW.o.setCell lZ _⟩;have hr2:=HR.o;exact (hr2.a0b a0f (X:=λb=>b=w.heap.size) ((Chg.refl (λb=>b=w.heap.size) v1).setCell (p:=⟨w.heap.size,0,none⟩) rfl (.slice uad j ucap)) (by intro b hb;have:=hb.1;omega)).wide (λb hb=>⟨by have:=hb.1;omega,by have h1:=hb.2;have h2:=HZ.o;simp [World.setCell];omega⟩) (λb hb=>hb.2)
theorem P.d1y {m p:P.Dic} (hp:p.Perm l) (hs:p.Pairwise P.le) (hm:m.Pairwise P.lt) (hml:∀x,x∈m↔x∈l) (hd:l.Pairwise λa b=>a.1≠b.1):p=m:=by
 have hd':p.Pairwise λa b=>a.1≠b.1:=(hp.pairwise_iff (λh=>Ne.symm h)).2 hd;refine P.b9d p m ?_ hm λx=>by rw [hml,hp.mem_iff]
 refine (hs.and hd').imp ?_;rintro a b ⟨h1,h2⟩;unfold P.le at h1;unfold P.lt;have:P.cmp a.1 b.1≠0:=λh=>h2 (P.cmp_eq _ _ h);omega
theorem a9c (u:Value) (l m:P.Dic) (w:World) (hu:EntR w u l) (hl:l.length<=2^20) (hle:∀e∈l,e.1.length<=2^20) (hm:m.Pairwise P.lt) (hml:∀x,x∈m↔x∈l) (hd:l.Pairwise λa b=>a.1≠b.1) :
 Cz 63 #[u] w (b8c m w):=by
 refine (b3w u l w hu hl hle).mono ?_
 rintro e w' ⟨p,hp,hs,h⟩
 rwa [P.d1y hp hs hm hml hd]at h
theorem P.Up.lt (h:P.Up l):l.Pairwise P.lt:=by
 rw [List.pairwise_iff_getElem];intro i j hi hj hij;have h1:=h i j hj hij;have h2:=P.b6b (l[j]'hj).1 (l[i]'hi).1;unfold P.lt;omega
theorem a9e (u:Value) (l:P.Dic) (w:World) (hu:EntR w u l) (hs:P.Up l) (hl:l.length<=2^20) (hle:∀e∈l,e.1.length<=2^20) :
 Cz 63 #[u] w (b8c l w):=
 a9c u l l w hu hl hle hs.lt (λ_=>Iff.rfl) (hs.lt.imp λ{a b} h e=>by unfold P.lt at h;rw [e,P.a3x]at h;exact absurd h dZ)
end
end Go.Proofs.YtggfdnopminemaaGreatDoor
