/- Walks: the records of a. -/
import Derived.Test.YtggfdnopminemaaGreatDoorLAppend
import Derived.Test.YtggfdnopminemaaGreatDoorScrI9
set_option linter.all false
namespace Go.Proofs.YtggfdnopminemaaGreatDoor.L
open Go.Proofs.Tryz
open Go Go.RowKit
set_option maxHeartbeats 8000000
set_option maxRecDepth 100000
variable {l:List Int} {B:Nat} {v:Go.Value} {w:Go.World}
theorem d9v (w:World) (B:Nat) (hB:B<=w.heap.size) (x:Int):a4n B (w.alloc (.cells #[.int .i64 x] 3)) (.slice (some ⟨w.heap.size,0,none⟩) 1 1) [x]:=
 ⟨by simp [a5x],.inr ⟨w.heap.size,1,_,rfl,hB,heap_alloc_new w _,Nat.le_refl _,by decide,by simp,by simp [a5x]⟩⟩
theorem d3l (h:a4n B w v l) (hl:l≠[]):∃g cap,v=.slice (some ⟨g,0,none⟩) l.length cap/\B<=g/\g<w.heap.size/\∀j (hj:j<l.length),w.cell? ⟨g,j,none⟩=some (.int .i64 l[j]):=by
 rcases h.2 with⟨_,h0⟩|⟨g,cap,cur,hv,hg,hh,_⟩
 .exact absurd (List.eq_nil_of_length_eq_zero h0) hl
 .have hob:v.ownBlock=some g:=by rw [hv];rfl
  refine⟨g,cap,hv,hg,(World.ownsRow.lt h g hob).2,λj hj=>?_⟩;have hc:=World.ownsRow.cells h hob j (.int .i64 l[j]) (by simp [a5x,List.getElem?_eq_getElem hj])
  rwa [add0]at hc
theorem d6m (h:a4n B w v l):c3q w 1 v l.length (a5x l):=by
 refine⟨by simp [a5x],by intro x hx;simp [a5x]at hx;obtain⟨y,_,rfl⟩:=hx;rfl,?_⟩
 rcases h.2 with⟨hv,h0⟩|⟨g,cap,cur,hv,hg,hh,_⟩
 .exact .inl ⟨hv,h0⟩
 .have hob:v.ownBlock=some g:=by rw [hv];rfl
  exact .inr ⟨⟨g,0,none⟩,cap,hv,World.ownsRow.cells h hob⟩
theorem a1x {C:Nat} {e:TypeId} {s:Nat} {n:Nat} {xs:List Value} (h:w.ownsRow B e s v n xs) (hC:C<=B):w.ownsRow C e s v n xs:=by
 refine⟨h.1,?_⟩
 rcases h.2 with h2|⟨g,cap,cur,hv,hg,r⟩
 .exact .inl h2
 .exact .inr ⟨g,cap,cur,hv,Nat.le_trans hC hg,r⟩
def c7o (d p:Str) (n:Int) (w:World) (e:Ending) (w':World):Prop:=∃v,e=.returned (.tuple #[v,.bool (P.a2r d p n)])/\a5a w.heap.size w' v (P.readAll (d++p)).1/\Bl w w'
theorem records (d p:Str) (n:Int) (w:World) (hd:d.length<=2^20) (hp:p.length<=2^20) (hE:Env w) :
 Cz 56 #[logV d p n] w (c7o d p n w):=by
 obtain⟨j0,ji,jz0,jz1,jz2⟩:=info_parts a2o
 have HE:=qh hE;clear hE
 go_enter func56,ntmps56
 go_wp2_with fail
 refine (read _ _ (by simp;omega) (HE.o.alloc _)).mono ?_
 rintro e w1 ⟨v,u,rfl,hown,howi,hb⟩
 obtain⟨ad,cp,rfl⟩:=b2l hown
 obtain⟨hcc,hff⟩:=a8b hb
 have hz:=d5s hb
 have hk0:w1.cell? ⟨w.heap.size,0,none⟩=some (.string (S d)):=by rw [hcc _ _ sZ];go_simp
 have hk2:w1.cell? ⟨w.heap.size,2,none⟩=some (.int .i64 n):=by rw [hcc _ _ sZ];go_simp
 have HOWN:=qh hown;have HOWI:=qh howi;have HB:=qh hb
 clear hown howi hb hcc hff
 have hrl:=P.b5p (d++p)
 generalize hR:P.readAll (d++p)=R at *
 obtain⟨hrl1,hrl2⟩:=hrl
 have HRL2:=qh hrl2
 have hrl3:R.2.1.length<=60:=by omega
 clear hrl2
 have HRR:=qh hR;clear hR
 go_wp2_with (at_builtin;refine a0z rfl (.tmp 21) (.tmp 22) 33 rfl w.heap.size 3 j0 (.int .i64 0) 1 8 underlying33 ji jz0 jz1 jz2 rfl dZ _ _ _ rfl (d9v w1 w.heap.size (Nat.le_of_lt hz) 0) _ _ _ rfl (d6m (World.ownsRow.alloc HOWI.o _)) ?c3 ?c4 ?c5 ?_)
 case c3=>unfold maxLen;simp;omega
 case c4=>simp;omega
 case c5=>simp;omega
 intro v' w2 hown' hgrow _
 rw [show (Value.slice (some ⟨w1.heap.size,0,none⟩) 1 1).ownBlock=some w1.heap.size from rfl]at hgrow
 obtain⟨st,hst⟩:∃st:List Int,st=0::R.2.1:=⟨_,rfl⟩
 have hstl:st.length<=61:=by rw [hst];simp;omega
 have hstn:st≠[]:=by rw [hst];simp
 have hS:a4n w.heap.size w2 v' st:=by rw [hst];unfold a4n;rw [List.length_cons,Nat.add_comm];simpa [a5x] using hown'
 obtain⟨g,cp2,rfl,hg,hgl,hcell⟩:=d3l hS hstn
 have hk0':w2.cell? ⟨w.heap.size,0,none⟩=some (.string (S d)):=hgrow.cell (a9d hk0 _) (by show some w.heap.size≠some w1.heap.size;intro e;injection e with e;omega)
 have hk2':w2.cell? ⟨w.heap.size,2,none⟩=some (.int .i64 n):=hgrow.cell (a9d hk2 _) (by show some w.heap.size≠some w1.heap.size;intro e;injection e with e;omega)
 have hO:a5a w.heap.size w2 (.slice ad R.1.length cp) R.1:=World.ownsRow.kept (World.ownsRow.alloc (a1x HOWN.o sZ) _) hgrow (by
  cases hb:(Value.slice ad R.1.length cp).ownBlock with
  |none=>exact .inl rfl
  |some k=>exact .inr (by intro e;injection e with e;have:=(World.ownsRow.lt HOWN.o k hb).2;omega))
 have hB:Bl w w2:=((((bZ.alloc lZ _).trans (HB.o.mono sZ)).alloc (Nat.le_of_lt hz) _).grown hgrow (by simp;omega) (λk hk=>by injection hk with hk;omega))
 have HO:=qh hO;have HBB:=qh hB;have HST:=qh hst;have HCELL:=qh hcell
 clear hO hB hst hcell hS HB HOWN HOWI hgrow hown' hk0 hk2 hrl1
 go_wp2
 go_loop [8,10,26] (λdr _ i=>∃k:Nat,k<=st.length/\i=.int .i64 k/\dr=.bool ((st.take k).any λx=>x==(d.length:Int))) (λ_ _ i=>st.length-(intOf i).toNat)
 case atStart=>exact⟨0,Nat.zero_le _,rfl,by simp⟩
 case round=>
  obtain⟨k,hk,rfl,rfl⟩:=hrel;generalize hg0:(st.take k).any (λx=>x==(d.length:Int))=dr at *;have HDR:=qh hg0;clear hg0
  by_cases hlt:k<st.length
  .have hck:=HCELL.o k hlt;have HSN:=qh (show (st.take (k+1)).any (λx=>x==(d.length:Int))=(dr||(st[k]==(d.length:Int))) by rw [a0g st k hlt,List.any_append,HDR.o];simp only [List.any_cons,List.any_nil,Bool.or_false])
   cases dr
   .exact zq170
   .exact zq170
  .have hkk:k=st.length:=by omega
   have HDR2:=qh (show st.any (λx=>x==(d.length:Int))=dr by rw [<-HDR.o,List.take_of_length_le oZ]);clear hkk;obtain⟨m,hm⟩:∃m,m=st.length-1:=⟨_,rfl⟩;have hm1:m<st.length:=by have:=List.length_pos_iff.2 hstn;omega
   have hcl:=HCELL.o m hm1;obtain⟨x,hx⟩:∃x,x=st[m]:=⟨_,rfl⟩;rw [<-hx]at hcl;have hxx:st[st.length-1]?.getD 0=x:=by rw [<-hm,List.getElem?_eq_getElem hm1,hx];rfl
   have hF:P.a2r d p n=(dr&&((x==(d.length:Int)+p.length)&&(n==(R.1.length:Int)))):=by
    unfold P.a2r P.b1c;rw [HRR.o,<-HST.o,HDR2.o,hxx];simp
   have HF0:=qh hF;have i1:IntKind.i64.wrap ((st.length:Int)-1)=(st.length:Int)-1:=IntWalk.i64_in _ oZ;have i2:0<=(st.length:Int)-1:=by omega
   have i3:((st.length:Int)-1).toNat=m:=by omega
   have i4:(st.length:Int)-1<(st.length:Int):=by omega
   clear hm hm1 hx hxx hF HCELL
   have finish:∀q b,P.a2r d p n=b->c7o d p n w (.returned (.tuple #[.slice ad R.1.length cp,.bool b])) (w2.drewN q):=by
    intro q b hb;refine⟨.slice ad R.1.length cp,by rw [hb],?_,?_⟩
    .rw [HRR.o];exact a1v HO.o (below_drewN (Below.refl w2.heap.size _) _) lZ
    .exact below_drewN HBB.o _
   have FIN:=qh finish;clear finish
   cases dr
   .have HF:=qh (show P.a2r d p n=false by rw [HF0.o];rfl)
    go_wp2_with fail
    go_quiet (fail)
    go_wp2;go_ret2;exact FIN.o _ _ HF.o
   .cases h5:(x==(d.length:Int)+p.length)
    .have HF:=qh (show P.a2r d p n=false by rw [HF0.o,h5];rfl)
     go_wp2_with fail
     go_quiet (fail)
     go_wp2;go_ret2;exact FIN.o _ _ HF.o
    .cases h6:(n==(R.1.length:Int))
     all_goals
      have HF:=qh (show P.a2r d p n=_ by rw [HF0.o,h5,h6])
      go_wp2_with fail
      go_quiet (fail)
      go_wp2
      go_ret2
      exact FIN.o _ _ HF.o
theorem a6l (d p:Str) (n:Int) (w:World) (hd:d.length<=2^20) (hp:p.length<=2^20) (hE:Env w) :
 Cz 73 #[logV d p n] w λe w'=>e=.returned (.bool (P.a2r d p n))/\Bl w w':=by
 have HE:=qh hE;clear hE
 go_enter func73,ntmps73
 go_wp2_with fail
 refine (records _ _ _ _ hd hp (HE.o.alloc _)).mono ?_
 rintro e w1 ⟨v,rfl,_,hb⟩
 go_wp2
 go_ret
 exact⟨rfl,(bZ.alloc lZ _).trans (hb.mono sZ)⟩
end Go.Proofs.YtggfdnopminemaaGreatDoor.L
namespace Go.Proofs.YtggfdnopminemaaGreatDoor
open Go.Proofs.Tryz
variable {n:Int} {b:Nat} {d p sc:Str} {u us x:Go.Value} {v v':Go.World}
namespace P
theorem a9c {d:Dic} {t:Tr} (h:trans d t=true):dic d=true:=by
 exact zq131
def sess (l:Dic) (st:List Int) (sc d p:Bs) (n:Int):Bool:=trans l (st,sc)&&a1f d p n
theorem d8k (l:Dic) (st:List Int) (sc d p:Bs) (n:Int):(dic l&&(trans l (st,sc)&&a1f d p n))=sess l st sc d p n:=by
 unfold sess
 cases h:trans l (st,sc) with
 |false=>simp
 |true=>rw [a9c h];simp
end P
open Go Go.RowKit
set_option maxHeartbeats 8000000
set_option maxRecDepth 100000
theorem a3n (u us:Value) (l:P.Dic) (st:List Int) (sc d p:Str) (n:Int) (w:World) (hu:EntR w u l) (hus:IntR w us st) (hm:Small l) (hd:d.length<=2^20) (hp:p.length<=2^20) (hE:L.Env w) :
 Cz 45 #[a1b u us sc d p n] w λe w'=>e=.returned (.bool (P.sess l st sc d p n))/\Bl w w':=by
 refine zm25 ?_;intro hb0 HU HUS HX;have HE:=qh (hE.below hb0 hE.size);have HB:=qh hb0;clear hb0 hE;obtain⟨ad,cap,rfl,_,_⟩:=hu;obtain⟨sd,sap,rfl,_,_⟩:=hus;go_enter func45,ntmps45;go_upto_region 1 with fail;generalize w.alloc (a0f (.slice ad l.length cap) (.slice sd st.length sap) sc d p n)=v0 at *;obtain⟨c0,c1,c2,c3,c4,c5,_⟩:=HX.o;go_wp2_with fail;refine (a2t _ _ l st sc _ HU.o HUS.o hm HE.o.dic).mono ?_;rintro e w1 ⟨rfl,hb⟩;have HX1:=qh (HX.o.below hb);have HE1:=qh (HE.o.below hb HE.o.size);have HB1:=bt HB hb;have HP:Hq (P.sess l st sc d p n=(P.trans l (st,sc)&&P.a1f d p n)):=⟨rfl⟩;clear hb c0 c1 c2 c3 c4 c5 HX HE HB HU HUS;generalize P.trans l (st,sc)=q at *;obtain⟨c0,c1,c2,c3,c4,c5,_⟩:=HX1.o
 cases q
 .go_wp2;go_ret;exact⟨by rw [HP.o];rfl,HB1.o⟩
 .go_wp2_with fail
  refine (L.a6l d p n _ hd hp HE1.o).mono ?_;rintro e w2 ⟨rfl,hb⟩;rw [P.a7q];have HB2:=bt HB1 hb;clear hb;go_wp2;go_ret;exact⟨by rw [HP.o];rfl,HB2.o⟩
theorem c5i (u us:Value) (l:P.Dic) (st:List Int) (sc d p:Str) (n:Int) (w:World) (hu:EntR w u l) (hus:IntR w us st) (hm:Small l) (hd:d.length<=2^20) (hp:p.length<=2^20) :
 Cz 93 #[a1b u us sc d p n] w λe w'=>e=.returned (.bool (P.sess l st sc d p n))/\Bl w w':=by
 refine zm25 ?_;intro hb0 HU HUS HX;have HB:=qh hb0;clear hb0;have HP:=qh (P.d8k l st sc d p n);obtain⟨ad,cap,rfl,_,_⟩:=hu;obtain⟨sd,sap,rfl,_,_⟩:=hus;go_enter func93,ntmps93;go_upto_region 1 with fail;generalize w.alloc (a0f (.slice ad l.length cap) (.slice sd st.length sap) sc d p n)=v0 at *;obtain⟨c0,c1,c2,c3,c4,c5,_⟩:=HX.o;go_wp2_with fail;refine (c1d _ l _ HU.o hm.texts).mono ?_;rintro e w1 ⟨rfl,hb⟩;have HX1:=qh (HX.o.below hb);have HB1:=bt HB hb;have HU1:=qh (HU.o.below hb);have HUS1:=qh (HUS.o.below hb);clear hb c0 c1 c2 c3 c4 c5 HX HB HU HUS;generalize P.dic l=q at *;obtain⟨c0,c1,c2,c3,c4,c5,_⟩:=HX1.o
 cases q
 .go_wp2;go_ret;exact⟨by rw [<-HP.o];rfl,HB1.o⟩
 .go_wp2_with fail
  refine (c4n _ _ l st sc _ HU1.o HUS1.o hm).mono ?_;rintro e w2 ⟨rfl,hb⟩;have HX2:=qh (HX1.o.below hb);have HB2:=bt HB1 hb;clear hb c0 c1 c2 c3 c4 c5 HX1 HB1 HU1 HUS1;generalize P.trans l (st,sc)=q at *;obtain⟨c0,c1,c2,c3,c4,c5,_⟩:=HX2.o
  cases q
  .go_wp2;go_ret;exact⟨by rw [<-HP.o];rfl,HB2.o⟩
  .go_wp2_with fail
   refine (L.b5t d p n _ hd hp).mono ?_;rintro e w3 ⟨rfl,hb⟩;have HB3:=bt HB2 hb;clear hb;go_wp2;go_ret;exact⟨by rw [<-HP.o];rfl,HB3.o⟩
def SOut (b:Nat) (u us:Value) (sc d p:Str) (n:Int) (v:World):Prop:=
 SBox b u us sc d p n v/\v.frozen? ⟨b,0,none⟩=false/\v.frozen? ⟨b,1,none⟩=false/\v.frozen? ⟨b,2,none⟩=false/\v.frozen? ⟨b,3,none⟩=false/\v.frozen? ⟨b,4,none⟩=false/\v.frozen? ⟨b,5,none⟩=false
theorem SOut.a0b {X:Blk} (h:SOut b u us sc d p n v) (hc:Chg X v v') (hX:¬X b):SOut b u us sc d p n v':=by
 obtain⟨h0,f0,f1,f2,f3,f4,f5⟩:=h;have hb:=h0.2.2.2.2.2.2;exact⟨h0.a0b hc hX,(hc.frozen (p:=⟨b,0,none⟩) hb hX).trans f0,(hc.frozen (p:=⟨b,1,none⟩) hb hX).trans f1,(hc.frozen (p:=⟨b,2,none⟩) hb hX).trans f2,(hc.frozen (p:=⟨b,3,none⟩) hb hX).trans f3,(hc.frozen (p:=⟨b,4,none⟩) hb hX).trans f4,(hc.frozen (p:=⟨b,5,none⟩) hb hX).trans f5⟩
theorem SOut.below (h:SOut b u us sc d p n v) (hb:Bl v v'):SOut b u us sc d p n v':=h.a0b (Below.chg hb λ_=>False) λh=>h
theorem SOut.new (u us:Value) (sc d p:Str) (n:Int) (v:World):SOut v.heap.size u us sc d p n (v.alloc (a0f u us sc d p n)):=by
 refine⟨SBox.new _ _ _ _ _ _ _,?_,?_,?_,?_,?_,?_⟩<;>go_simp
theorem SOut.set0 (h:SOut b u us sc d p n v):SOut b x us sc d p n (v.setCell ⟨b,0,none⟩ x):=by
 exact zq28
theorem SOut.set1 {r:Str} (h:SOut b u us sc d p n v):SOut b u x r d p n ((v.setCell ⟨b,1,none⟩ x).setCell ⟨b,2,none⟩ (.string (S r))):=by
 exact zq28
theorem SOut.set3 {d' p':Str} {n':Int} (h:SOut b u us sc d p n v):SOut b u us sc d' p' n' (((v.setCell ⟨b,3,none⟩ (.string (S d'))).setCell ⟨b,4,none⟩ (.string (S p'))).setCell ⟨b,5,none⟩ (.int .i64 n')):=by
 exact zq28
def d5i (l:P.Dic) (st:List Int) (sc d p:Str) (n:Int) (w:World) (e:Ending) (w':World):Prop:=
 ∃u us m,e=.returned (a1b u us sc d p n)/\Ents w' (Bet w.heap.size m) u l/\Ints w' (Bet m w'.heap.size) us st/\w.heap.size<=m/\m<=w'.heap.size/\Bl w w'
end Go.Proofs.YtggfdnopminemaaGreatDoor
namespace Go.Proofs.YtggfdnopminemaaGreatDoor.P
open Go.Proofs.Tryz
def appS (d p:Bs) (n:Int) (c r:Bs):Bs×Int×Int:=
 if !a1f d p n||!good c r then (p,n,1) else if n==60 then (p,n,2) else (p++line n.toNat c r,n+1,0)
def appI (d p:Bs) (n:Int) (c r:Bs):Bs×Int×Int:=
 if !a2r d p n||!vrec c r then (p,n,1) else if n==60 then (p,n,2) else (p++(encode n c r).1,n+1,0)
theorem b3i {d p:Bs} {n:Int} (h:a1f d p n=true):0<=n/\n<=60/\d.length+p.length<=30000:=by
 unfold a1f at h;simp only [Bool.and_eq_true,decide_eq_true_eq,beq_iff_eq]at h;have:=(b5p (d++p)).1;rw [b2t]at h;simp only at h;omega
theorem app_eq (d p:Bs) (n:Int) (c r:Bs):appI d p n c r=appS d p n c r:=by
 unfold appI appS;rw [a7q,a6q]
 cases h1:a1f d p n<;>cases h2:good c r<;>try rfl
 cases h3:(n==60)
 .obtain⟨h4,h5,_⟩:=b3i h1;obtain⟨m,rfl⟩:=Int.eq_ofNat_of_zero_le h4;have h6:((m:Nat):Int)≠60:=by simpa using h3
  have:=a7b (k:=m) oZ h2;simp only [Bool.not_true,Bool.or_self,Bool.false_eq_true,if_false,Int.toNat_natCast];rw [this]
 .rfl
end Go.Proofs.YtggfdnopminemaaGreatDoor.P
namespace Go.Proofs.YtggfdnopminemaaGreatDoor.L
open Go.Proofs.Tryz
open Go Go.RowKit
set_option maxHeartbeats 8000000
set_option maxRecDepth 100000
variable {n:Int} {c d p r:Str} {v w:Go.World}
def AB (w:World) (d p:Str) (n:Int) (c r:Str) (v:World):Prop:=
 (v.cell? ⟨w.heap.size,0,none⟩=some (.string (S d))/\v.cell? ⟨w.heap.size,1,none⟩=some (.string (S p))/\v.cell? ⟨w.heap.size,2,none⟩=some (.int .i64 n)) /\
 (v.cell? ⟨w.heap.size+1,0,none⟩=some (.string (S c))/\v.cell? ⟨w.heap.size+1,1,none⟩=some (.string (S r))) /\
 (v.cell? ⟨w.heap.size+1+1,0,none⟩=some (.string (S []))/\v.cell? ⟨w.heap.size+1+1,1,none⟩=some (.string (S []))/\v.cell? ⟨w.heap.size+1+1,2,none⟩=some (.int .i64 0)) /\
 (v.frozen? ⟨w.heap.size,0,none⟩=false/\v.frozen? ⟨w.heap.size,1,none⟩=false/\v.frozen? ⟨w.heap.size,2,none⟩=false) /\
 (v.frozen? ⟨w.heap.size+1+1,0,none⟩=false/\v.frozen? ⟨w.heap.size+1+1,1,none⟩=false/\v.frozen? ⟨w.heap.size+1+1,2,none⟩=false) /\
 w.heap.size+1+1<v.heap.size/\Env v/\Bl w v
theorem AB.start {t u:TypeId} (hE:Env w) :
 AB w d p n c r (((w.alloc (.cells #[.string (S d),.string (S p),.int .i64 n] t)).alloc (.cells #[.string (S c),.string (S r)] u)).alloc (.cells #[.string (S []),.string (S []),.int .i64 0] t)):=by
 refine⟨⟨?_,?_,?_⟩,⟨?_,?_⟩,⟨?_,?_,?_⟩,⟨?_,?_,?_⟩,⟨?_,?_,?_⟩,by simp,((hE.alloc _).alloc _).alloc _,((bZ.alloc lZ _).alloc sZ _).alloc (by simp;omega) _⟩<;>go_simp
theorem AB.carry {v':World} (h:AB w d p n c r v) (hb:Bl v v'):AB w d p n c r v':=by
 obtain⟨⟨a1,a2,a3⟩,⟨b1,b2⟩,⟨c1,c2,c3⟩,⟨d1,d2,d3⟩,⟨e1,e2,e3⟩,f,g,i⟩:=h;have hz0:w.heap.size<v.heap.size:=by omega
 have hz1:w.heap.size+1<v.heap.size:=by omega
 refine⟨⟨?_,?_,?_⟩,⟨?_,?_⟩,⟨?_,?_,?_⟩,⟨?_,?_,?_⟩,⟨?_,?_,?_⟩,Nat.lt_of_lt_of_le f hb.size,g.below hb g.size,i.trans (hb.mono oZ)⟩
 .exact (hb.cell (p:=⟨_,0,none⟩) hz0).trans a1
 .exact (hb.cell (p:=⟨_,1,none⟩) hz0).trans a2
 .exact (hb.cell (p:=⟨_,2,none⟩) hz0).trans a3
 .exact (hb.cell (p:=⟨_,0,none⟩) hz1).trans b1
 .exact (hb.cell (p:=⟨_,1,none⟩) hz1).trans b2
 .exact (hb.cell (p:=⟨_,0,none⟩) f).trans c1
 .exact (hb.cell (p:=⟨_,1,none⟩) f).trans c2
 .exact (hb.cell (p:=⟨_,2,none⟩) f).trans c3
 .exact (hb.frozen (p:=⟨_,0,none⟩) hz0).trans d1
 .exact (hb.frozen (p:=⟨_,1,none⟩) hz0).trans d2
 .exact (hb.frozen (p:=⟨_,2,none⟩) hz0).trans d3
 .exact (hb.frozen (p:=⟨_,0,none⟩) f).trans e1
 .exact (hb.frozen (p:=⟨_,1,none⟩) f).trans e2
 .exact (hb.frozen (p:=⟨_,2,none⟩) f).trans e3
theorem AB.env (h:AB w d p n c r v):Env v:=h.2.2.2.2.2.2.1
theorem AB.below (h:AB w d p n c r v):Bl w v:=h.2.2.2.2.2.2.2
theorem c6e (d p:Str) (n:Int) (c r:Str) (w:World) (hd:d.length<=2^20) (hp:p.length<=2^20) (hc:c.length<=2^20) (hr:r.length<=2^20) (hE:Env w) :
 Cz 72 #[logV d p n,.agg #[.string (S c),.string (S r)]] w λe w'=>e=.returned (.tuple #[logV d (P.appI d p n c r).1 (P.appI d p n c r).2.1,.int .i64 (P.appI d p n c r).2.2])/\Bl w w':=by
 have A1:=qh (AB.start (w:=w) (d:=d) (p:=p) (n:=n) (c:=c) (r:=r) (t:=28) (u:=86) hE)
 clear hE
 cases h1:P.a2r d p n
 .have HF:=qh (show P.appI d p n c r=(p,n,1) by unfold P.appI;rw [h1];rfl);go_enter func72,ntmps72;go_wp2_with fail;refine (a6l _ _ _ _ hd hp A1.o.env).mono ?_;rintro e w1 ⟨rfl,hb⟩;refine zn26 ?_;intro A2 a1 a2 a3 b1 b2 c1 c2 c3 d1 d2 d3 e1 e2 e3 hz;clear hb A1;go_wp2;refine bodyPost_ret (v:=.tuple #[logV d p n,.int .i64 1]) (by simp [results,results72,go_sem,c1,c2,c3]) rfl ⟨by rw [HF.o],?_⟩;exact ((A2.o.below.setCell (by simp;omega) _).setCell (by simp;omega) _).setCell (by simp;omega) _
 .cases h2:P.vrec c r
  .have HF:=qh (show P.appI d p n c r=(p,n,1) by unfold P.appI;rw [h1,h2];rfl);go_enter func72,ntmps72;go_wp2_with fail;refine (a6l _ _ _ _ hd hp A1.o.env).mono ?_;rintro e w1 ⟨rfl,hb⟩;refine zn26 ?_;intro A2 a1 a2 a3 b1 b2 c1 c2 c3 d1 d2 d3 e1 e2 e3 hz;clear hb A1;go_wp2_with fail;refine (a3c _ _ _ oZ oZ).mono ?_;rintro e w2 ⟨rfl,hb⟩;refine zn71 ?_;clear hb A2 a1 a2 a3 b1 b2 c1 c2 c3 d1 d2 d3 e1 e2 e3 hz;intro A3 a1 a2 a3 b1 b2 c1 c2 c3 d1 d2 d3 e1 e2 e3 hz;go_wp2;refine bodyPost_ret (v:=.tuple #[logV d p n,.int .i64 1]) (by simp [results,results72,go_sem,c1,c2,c3]) rfl ⟨by rw [HF.o],?_⟩;exact zq97
  .cases h3:(n==60)
   .have HF:=qh (show P.appI d p n c r=(p++(P.encode n c r).1,n+1,0) by unfold P.appI;rw [h1,h2,h3];rfl);have hn:=P.b3i (P.a7q d p n ▸ h1);obtain⟨hn0,hn1,_⟩:=hn;obtain⟨x,hx⟩:∃x,(P.encode n c r).1=x:=⟨_,rfl⟩;have HX:=qh hx
    have hxl:x.length<=10000:=by
     rw [<-hx];obtain⟨m,rfl⟩:=Int.eq_ofNat_of_zero_le hn0;have h6:((m:Nat):Int)≠60:=by simpa using h3
     rw [P.a7b (k:=m) oZ (P.a6q c r ▸ h2)];have:=(P.a5k (k:=m) oZ (P.a6q c r ▸ h2)).1
     show (P.line m c r).length<=10000
     omega
    clear hx;go_enter func72,ntmps72;go_wp2_with fail;refine (a6l _ _ _ _ hd hp A1.o.env).mono ?_;rintro e w1 ⟨rfl,hb⟩;refine zn26 ?_;intro A2 a1 a2 a3 b1 b2 c1 c2 c3 d1 d2 d3 e1 e2 e3 hz;clear hb A1;go_wp2_with fail;refine (a3c _ _ _ oZ oZ).mono ?_;rintro e w2 ⟨rfl,hb⟩;refine zn71 ?_;clear hb A2 a1 a2 a3 b1 b2 c1 c2 c3 d1 d2 d3 e1 e2 e3 hz;intro A3 a1 a2 a3 b1 b2 c1 c2 c3 d1 d2 d3 e1 e2 e3 hz;go_wp2_with fail;refine (b3z _ _ _ _ oZ oZ A3.o.env).mono ?_;rintro e w3 ⟨rfl,hb⟩;rw [HX.o];have A4:=qh (A3.o.carry hb);clear hb A3;clear a1 a2 a3 b1 b2 c1 c2 c3 d1 d2 d3 e1 e2 e3 hz;obtain⟨⟨a1,a2,a3⟩,⟨b1,b2⟩,⟨c1,c2,c3⟩,⟨d1,d2,d3⟩,⟨e1,e2,e3⟩,hz,_⟩:=A4.o;have f1:¬9223372036854775807<p.length+x.length:=by omega
    go_wp2;refine bodyPost_ret (v:=.tuple #[logV d (p++x) (n+1),.int .i64 0]) (by simp [results,results72,go_sem,c1,c2,c3]) rfl ⟨by rw [HF.o,HX.o],?_⟩;exact ((A4.o.below.setCell (by simp;omega) _).setCell (by simp;omega) _).setCell (by simp;omega) _
   .have HF:=qh (show P.appI d p n c r=(p,n,2) by unfold P.appI;rw [h1,h2,h3];rfl);go_enter func72,ntmps72;go_wp2_with fail;refine (a6l _ _ _ _ hd hp A1.o.env).mono ?_;rintro e w1 ⟨rfl,hb⟩;refine zn26 ?_;intro A2 a1 a2 a3 b1 b2 c1 c2 c3 d1 d2 d3 e1 e2 e3 hz;clear hb A1;go_wp2_with fail;refine (a3c _ _ _ oZ oZ).mono ?_;rintro e w2 ⟨rfl,hb⟩;refine zn71 ?_;clear hb A2 a1 a2 a3 b1 b2 c1 c2 c3 d1 d2 d3 e1 e2 e3 hz;intro A3 a1 a2 a3 b1 b2 c1 c2 c3 d1 d2 d3 e1 e2 e3 hz;go_wp2;refine bodyPost_ret (v:=.tuple #[logV d p n,.int .i64 2]) (by simp [results,results72,go_sem,c1,c2,c3]) rfl ⟨by rw [HF.o],?_⟩;exact zq97
end Go.Proofs.YtggfdnopminemaaGreatDoor.L
namespace Go.Proofs.YtggfdnopminemaaGreatDoor.P
open Go.Proofs.Tryz
variable {y:Bs} {d:Dic} {l:List Int}
def fmtE (e:Edit):Bs:=45::(num e.1.toNat++43::e.2)
abbrev Ses:=Dic×Tr
abbrev Ans:=Ses×Option Bs
def optB (r:Bs×Bool):Option Bs:=if r.2 then some r.1 else none
def b0x (d:Dic):Tr->List Int->Option Tr
 |t,[]=>some t
 |t,k::r=>if (a5v d t k).2 then b0x d (a5v d t k).1.1 r else none
def typed (s:Ses) (l:List Int):Ans:=match b0x s.1 s.2 l with
 |none=>(s,none)
 |some t=>((s.1,t),some (fmtE (least s.2.2 t.2)))
def b0q (s:Ses) (o:List Int):Bs×Bool:=scr (kept (a3z o s.1) (del o s.1)) s.2.1
def a3i (s:Ses) (o:List Int):Ans:=if a3z o s.1&&(b0q s o).2 then ((kept (a3z o s.1) (del o s.1),(s.2.1,(b0q s o).1)),some (fmtE (least s.2.2 (b0q s o).1))) else (s,none)
def d1g:Bs:=[112,114,101,115,115]
def c9s:Bs:=[116,121,112,101]
def b2i:Bs:=[100,101,108,101,116,101]
def c4f:Bs:=[108,111,111,107,117,112]
def c5p:Bs:=[100,101,102,105,110,101]
def b9g:Bs:=[114,101,118,101,114,115,101]
def e0o:Bs:=[106,111,105,110]
def d5c:Bs:=[108,111,111,115,101]
def e0k:Bs:=[117,110,100,111]
def c4p:Bs:=[115,99,114,101,101,110]
def d2v:Bs:=[99,111,117,110,116]
def c4j:Bs:=[112,105,101,99,101,115]
def wNone:Bs:=[110,111,110,101]
def wLong:Bs:=[108,111,110,103]
def wNo:Bs:=[110,111]
def wBad:Bs:=[98,97,100]
def wFull:Bs:=[102,117,108,108]
def outl (s:Ses) (word:Bs) (o:List Int):Ans:=if word=c9s then typed s o else if word=b2i then a3i s o else (s,optB (b6n o s.1))
def a6h (s:Ses) (word more:Bs):Ans:=match a1q more with
 |none=>(s,none)
 |some o=>outl s word o
def a2d (t:Bs) (l:Dic):List (List Int):=(l.filter λe=>e.2==t).map (·.1)
def revT (d:Dic) (t:Bs):Bs:=if a2d t d=[] then wNone else Go.Lib.join ((a2d t d).map λo=>(fmtS 47 o).map hash) [32]
def a5t (d:Dic) (more:Bs):Option Bs:=if (a0p more).2 then some (revT d more) else none
def a1n (s:Ses) (more:Bs):Ans:=match a1q (head 32 more) with
 |none=>(s,none)
 |some o=>if (head 32 more).length=more.length then (s,none) else
  if (a3g s.1 s.2 (o,more.drop ((head 32 more).length+1))).2 then
   ((a3g s.1 s.2 (o,more.drop ((head 32 more).length+1))).1.1,some (fmtE (a3g s.1 s.2 (o,more.drop ((head 32 more).length+1))).1.2)) else (s,none)
def a0x (more:Bs):Option Bs:=match split 32 more with
 |[a,b]=>optB (a2e a b)
 |_=>none
def c1h (more:Bs):Option Bs:=if (loose more).2 then some (fmt ((loose more).1:Int)) else none
def blank (l:List Pc):Nat:=(l.filter λp=>p.2==[]).length
def alone (s:Ses) (word:Bs):Ans:=
 if word=e0k then typed s [1024] else if word=c4p then (s,some s.2.2) else if word=d2v then (s,some (num s.2.1.length))
 else if word=c4j then (s,some ((num (segA s.1 s.2.1).length++[32])++num (blank (segA s.1 s.2.1)))) else (s,none)
def a5y (s:Ses) (more:Bs):Ans:=if (parse more).2 then typed s [((parse more).1:Int)] else (s,none)
def args (s:Ses) (word more:Bs):Ans:=
 if word=d1g then a5y s more else if word=c9s\/word=b2i\/word=c4f then a6h s word more
 else if word=c5p then a1n s more else if word=b9g then (s,a5t s.1 more)
 else if word=e0o then (s,a0x more) else if word=d5c then (s,c1h more) else (s,none)
def cmd (s:Ses) (line:Bs):Ans:=if (head 32 line).length=line.length then alone s (head 32 line) else args s (head 32 line) (line.drop ((head 32 line).length+1))
def a5d (o:Option Bs):Bs:=match o with
 |none=>[63]
 |some r=>if 200<r.length then wLong else r
abbrev LogT:=Bs×Bs×Int
def c8q (g:LogT) (c r:Bs):LogT:=(g.1,(appS g.1 g.2.1 g.2.2 c r).1,(appS g.1 g.2.1 g.2.2 c r).2.1)
def b4e (s:Ses) (g:LogT):Bool:=sess s.1 s.2.1 s.2.2 g.1 g.2.1 g.2.2
def exec (s:Ses) (g:LogT) (line:Bs):(Ses×LogT)×Bs:=
 if !b4e s g then ((s,g),wNo) else if !good line [] then ((s,g),wBad) else if g.2.2=60 then ((s,g),wFull)
 else (((cmd s line).1,c8q g line (a5d (cmd s line).2)),a5d (cmd s line).2)
/-! ### cut and split -/
theorem d6p (c:UInt8) (l:Bs) (h:c∉l):Go.Lib.cut l [c]=(l,[],false):=by
 unfold Go.Lib.cut;rw [b1f c l h];rfl
theorem b5y (c:UInt8) (l:Bs):(c∉l/\Go.Lib.cut l [c]=(l,[],false)/\head c l=l) \/
 ∃x y,l=x++c::y/\(∀b∈x,b≠c)/\Go.Lib.cut l [c]=(x,y,true)/\head c l=x/\l.drop ((head c l).length+1)=y/\(head c l).length<l.length:=by
 by_cases hm:c∈l
 .obtain⟨x,y,e,hx⟩:=a2i c l hm;refine .inr ⟨x,y,e,hx,by rw [e];exact b2s c x y hx,by rw [e];exact a7p c x y hx,?_,?_⟩
  .rw [e,a7p c x y hx,show x++c::y=(x++[c])++y by simp,show x.length+1=(x++[c]).length by simp,List.drop_left]
  .rw [e,a7p c x y hx];simp
 .exact .inl ⟨hm,d6p c l hm,by unfold head;rw [a4w c l hm];rfl⟩
theorem e0n (s:Ses) (line:Bs):cmd s line=if (Go.Lib.cut line [32]).2.2 then args s (Go.Lib.cut line [32]).1 (Go.Lib.cut line [32]).2.1 else alone s (Go.Lib.cut line [32]).1:=by
 unfold cmd
 rcases b5y 32 line with⟨_,h1,h2⟩|⟨x,y,_,_,h1,h2,h3,h4⟩
 .rw [h1,h2,if_pos rfl];rfl
 .rw [h1,if_neg oZ,h3,h2];rfl
theorem d0e (h:(32:UInt8)∈y):isWord y=false:=by
 unfold isWord
 have:y.all lower=false:=by
  rw [List.all_eq_false];exact⟨32,h,by decide⟩
 rw [this];rfl
theorem c6t {x:Bs} (h:isWord y=false):a2e x y=([],false):=by
 unfold a2e;rw [h,Bool.and_false];rfl
theorem c9h (more:Bs):optB (a2e (Go.Lib.cut more [32]).1 (Go.Lib.cut more [32]).2.1)=a0x more:=by
 unfold a0x
 rcases b5y 32 more with⟨h0,h1,h2⟩|⟨x,y,h0,hx,h1,_⟩
 .rw [h1,a4w 32 more h0]
  show optB (a2e more [])=none
  rw [c6t dZ];rfl
 .rw [h1,h0,a6t 32 y x hx]
  by_cases hy:(32:UInt8)∈y
  .obtain⟨a,b,e,ha⟩:=a2i 32 y hy
   show optB (a2e x y)=_
   rw [c6t (d0e hy),e,a6t 32 b a ha]
   cases hb:split 32 b with
   |nil=>exact absurd hb (a2k 32 b)
   |cons _ _=>rfl
  .rw [a4w 32 y hy]
theorem c5u (d:Dic) (t:Tr) (o:List Int):(a3g d t (o,[])).2=false:=by
 have:a4a (o,[]) d=false:=by
  unfold a4a entry;rw [show (a0p ([]:Bs)).2=false from by decide];simp
 rw [b1q (by rw [this];simp)]
theorem b0b (s:Ses) (more:Bs):a1n s more=match a1q (Go.Lib.cut more [32]).1 with
 |none=>(s,none)
 |some o=>if (a3g s.1 s.2 (o,(Go.Lib.cut more [32]).2.1)).2 then ((a3g s.1 s.2 (o,(Go.Lib.cut more [32]).2.1)).1.1,some (fmtE (a3g s.1 s.2 (o,(Go.Lib.cut more [32]).2.1)).1.2)) else (s,none):=by
 unfold a1n
 rcases b5y 32 more with⟨h0,h1,h2⟩|⟨x,y,h0,hx,h1,h2,h3,h4⟩
 .rw [h1,h2]
  cases a1q more with
  |none=>rfl
  |some o=>simp only [c5u];simp
 .rw [h1,h3]
  show _=match a1q x with
   |none=>(s,none)
   |some o=>if (a3g s.1 s.2 (o,y)).2 then ((a3g s.1 s.2 (o,y)).1.1,some (fmtE (a3g s.1 s.2 (o,y)).1.2)) else (s,none)
  rw [h2]at h4⊢
  cases a1q x with
  |none=>rfl
  |some o=>
   show (if x.length=more.length then _ else _)=_
   rw [if_neg oZ]
/-! ### what a command keeps -/
theorem c3v (h:(scr d l).2=true) (h2:l.contains 1024=false):trans d (l,(scr d l).1)=true:=by
 unfold trans;rw [h,h2];simp
theorem b5n:∀{l:List Int} {t t':Tr},trans d t=true->b0x d t l=some t'->trans d t'=true
 |[],t,t',h,e=>by injection e with e;subst e;exact h
 |k::l,t,t',h,e=>by
  unfold b0x at e
  split at e
  .rename_i hp;exact b5n (b0i hp) e
  .cases e
theorem b0l {s:Ses} (h:trans s.1 s.2=true):trans (typed s l).1.1 (typed s l).1.2=true:=by
 unfold typed
 cases hq:b0x s.1 s.2 l with
 |none=>exact h
 |some t=>exact b5n h hq
end Go.Proofs.YtggfdnopminemaaGreatDoor.P
namespace Go.Proofs.YtggfdnopminemaaGreatDoor
open Go.Proofs.Tryz
open Go Go.RowKit
set_option maxHeartbeats 8000000
set_option maxRecDepth 100000
theorem P.b8z {l:P.Dic} {st:List Int} {sc d p:Str} {n:Int} (h:P.sess l st sc d p n=true):P.a3a st=true/\sc.length<=2000:=by
 unfold P.sess at h;simp only [Bool.and_eq_true]at h;obtain⟨h1,_⟩:=P.a2c h.1;exact⟨(P.c7a h1).2.1,P.a3q (P.a1w h.1)⟩
theorem c0b (B:Nat) (u:Value) (l:List Str) (c:UInt8) (w:World) (h:a0m B w u l) (hl:l.length<=2^20) (hx:(Lib.join l [c]).length<=2^30) :
 Cz 185 #[u,.string (S [c])] w λe w'=>e=.returned (.string (S (Lib.join l [c])))/\Bl w w':=by
 cases l with
 |nil=>
  have hu:∃a cap,u=.slice a 0 cap:=by
   rcases h.2 with⟨rfl,_⟩|⟨g,cap,cur,rfl,_⟩
   .exact⟨_,_,rfl⟩
   .exact⟨_,_,rfl⟩
  obtain⟨a,cap,rfl⟩:=hu;refine (Tryz.strings_Join_none a cap (S [c]) w).mono ?_;rintro e w' ⟨rfl,rfl⟩;exact⟨rfl,Below.refl _ _⟩
 |cons x r=>
  rcases id h.2 with⟨_,h0⟩|⟨g,cap,cur,hv,hg,hh,hnc,_⟩
  .simp at h0
  .have hob:u.ownBlock=some g:=by rw [hv];rfl
   have hgl:=(World.ownsRow.lt h g hob).2
   have hj:=Tryz.strings_Join g 0 cap ((x::r).map S) (S [c]) w (by
    intro j y hy
    rw [List.getElem?_map]at hy
    cases hq:(x::r)[j]? with
    |none=>rw [hq]at hy;simp at hy
    |some z=>
     rw [hq]at hy;simp only [Option.map_some,Option.some.injEq]at hy;subst hy;have hc:=World.ownsRow.cells h hob j (.string (S z)) (by unfold a2b;rw [List.getElem?_map,hq];rfl);rw [add0]at hc;rw [Nat.zero_add];exact hc) hgl (by simp at hl⊢;omega) (by simpa using hnc) (by
    rw [List.map_map,S_dataList,show ((λx:ByteArray=>x.data.toList) ∘ S)=id from funext λz=>S_dataList z,List.map_id];omega)
   rw [List.length_map]at hj;rw [hv];refine hj.mono ?_;rintro e w' ⟨rfl,hb⟩;refine⟨?_,hb⟩;rw [List.map_map,S_dataList,show ((λx:ByteArray=>x.data.toList) ∘ S)=id from funext λz=>S_dataList z,List.map_id];rfl
theorem b8p (us:Value) (st:List Int) (w:World) (hus:IntR w us st) (hs:P.a3a st=true) :
 Cz 108 #[us] w λe w'=>e=.returned (.string (S (P.fmtS 47 st)))/\Bl w w':=by
 obtain⟨i0,hi,hz0,hz1,hz2⟩:=info_parts L.a7r
 have HUS:=qh hus;have HSL:=qh hs
 have hl60:=P.a2y hs
 obtain⟨sd,sap,rfl,_,_⟩:=hus
 clear hs
 go_enter func108,ntmps108
 have HOW:Hq (a0m w.heap.size (w.alloc (.cells #[] 9)) (.slice (some ⟨w.heap.size,0,none⟩) 0 0) []):=⟨by have h:=World.ownsRow_lit (base:=w.heap.size) (e:=9) (size:=1) w #[] 0 lZ (Nat.zero_le _) sZ;simpa [a0m,a2b] using h⟩
 have HB0:=qh ((Below.refl w.heap.size w).alloc lZ (.cells #[] 9))
 go_wp2
 go_loopw [3,11] (λv i wr=>∃k:Nat,k<=st.length/\i=.int .i64 k/\(∃ws,ws=(st.take k).map P.fmt/\a0m w.heap.size wr v ws)/\Bl w wr) (λ_ i _=>st.length-(intOf i).toNat)
 case atStart=>exact⟨0,Nat.zero_le _,rfl,⟨_,rfl,HOW.o⟩,HB0.o⟩
 case round=>
  obtain⟨k,hk,rfl,⟨ws,hws,hown⟩,hbel⟩:=hrel;have HOWN:=qh hown;have HBEL:=qh hbel;have HWS:=qh hws;have hsz:=HBEL.o.size;clear hown hbel hws HOW HB0
  by_cases hlt:k<st.length
  .obtain⟨m,hm,hms,hmd⟩:=P.a6p HSL.o hlt;have HMS:=qh hms;obtain⟨g,o,hga,hgl,c0⟩:=(HUS.o.below HBEL.o).at k hlt;subst hga;rw [hm]at c0;have HSN:Hq (ws++[P.fmt (m:Int)]=(st.take (k+1)).map P.fmt):=⟨by rw [HWS.o,a0g st k hlt,hm,List.map_append];rfl⟩;have i1:(k:Int)<(st.length:Int):=by omega
   clear hm hmd hms
   go_wp2_with fail
   refine (a3d m _ HMS.o).mono ?_;rintro e w1 ⟨rfl,hb⟩;have HO1:Hq (a0m w.heap.size w1 _ ws):=⟨a0i HOWN.o hb lZ⟩;have HB1:=qh (HBEL.o.trans (hb.mono hsz));have hsz1:w.heap.size<=w1.heap.size:=HB1.o.size;have hlm:ws.length<=60:=by rw [HWS.o,List.length_map,List.length_take];omega
   clear hb c0 hgl HOWN HBEL
   go_wp2_with (at_builtin;refine wpList_append_own _ rfl _ _ 43 rfl w.heap.size 9 i0 (.string ⟨#[]⟩) 1 16 underlying43 hi hz0 hz1 hz2 rfl dZ _ _ _ rfl (HO1.o.alloc _) ⟨w1.heap.size,0,none⟩ 1 1 [.string (S (P.fmt (m:Int)))] rfl rfl ?c1 ?c2 ?c3 ?c4 ?c5 ?_)
   case c1=>intro j u hj;match j,hj with|0,hj=>(simp at hj;subst hj;simp [Addr.add])
   case c2=>intro u hu;simp at hu;subst hu;rfl
   case c3=>unfold maxLen;omega
   case c4=>omega
   case c5=>simp;omega
   intro v' w2 hown' hgrow _;have R:=qh (L.b1k hsz1 HO1.o HB1.o hown' hgrow);clear hown' hgrow HO1 HB1;go_wp2
   go_roundw
   case rel=>
    repeat apply Exists.intro
    refine⟨?_,rfl⟩;exact⟨k+1,by omega,by go_num,⟨_,HSN.o,R.o.1⟩,R.o.2⟩
   case measure=>exact zq
  .have hkl:k=st.length:=by omega
   subst hkl;have HO1:Hq (a0m w.heap.size wr _ (st.map P.fmt)):=⟨by have h:=HOWN.o;rw [HWS.o,List.take_length]at h;exact h⟩;have HBL:=qh HBEL.o;have hjl:=P.a2z 47 st;clear HOWN HBEL
   go_wp2_with fail
   refine (c0b w.heap.size _ (st.map P.fmt) 47 _ HO1.o (by rw [List.length_map];omega) (by unfold P.fmtS at hjl;omega)).mono ?_;rintro e w1 ⟨rfl,hb⟩;have HB1:=qh (HBL.o.trans (hb.mono hsz));clear hb;go_wp2;go_ret;exact⟨rfl,HB1.o⟩
def P.b5c (l:P.Dic) (st:List Int) (sc d p:Str) (n:Int):Str×Bool:=if P.sess l st sc d p n&&decide ((P.a5q st sc).length<=4000) then (P.a5q st sc,true) else ([],false)
theorem c2b (st:List Int) (w:World) (hE:Env w) (hl:st.length<=60) :
 Cz 107 #[.string (S (P.fmtS 47 st)),.string (S [47]),.string (S [32])] w λe w'=>e=.returned (.string (S (P.fmtS 32 st)))/\Bl w w':=by
 obtain⟨n,hm⟩:=hE.2
 have hl:=P.a2z 47 st
 have hc:=Lib.countB_mul_le (S [47]) dZ (S (P.fmtS 47 st)).size (S (P.fmtS 47 st)) lZ
 have hc2:Lib.countB (S (P.fmtS 47 st)) (S [47])<=(P.fmtS 47 st).length:=by rw [S_size,S_size]at hc;simpa using hc
 refine (Tryz.strings_ReplaceAll (S (P.fmtS 47 st)) (S [47]) (S [32]) n w (by rw [S_size];omega) hm dZ (by rw [S_size,S_size];simp;omega)).mono ?_
 rintro e w' ⟨rfl,hb⟩
 rw [S_dataList,S_dataList,S_dataList,P.d1a]
 exact⟨rfl,hb⟩
theorem b2h (u us:Value) (l:P.Dic) (st:List Int) (sc d p:Str) (n:Int) (w:World) (hu:EntR w u l) (hus:IntR w us st) (hm:Small l) (hd:d.length<=2^20) (hp:p.length<=2^20) (hE:L.Env w) :
 Cz 48 #[a1b u us sc d p n] w (a5u (P.b5c l st sc d p n) w):=by
 refine zm25 ?_;intro hb0 HU HUS HX;have HE:=qh (hE.below hb0 hE.size);have HB:=qh hb0;clear hb0 hE;obtain⟨ad,cap,rfl,_,_⟩:=hu;obtain⟨sd,sap,rfl,_,_⟩:=hus;go_enter func48,ntmps48;go_upto_region 1 with fail;generalize w.alloc (a0f (.slice ad l.length cap) (.slice sd st.length sap) sc d p n)=v0 at *;obtain⟨c0,c1,c2,c3,c4,c5,_⟩:=HX.o;go_wp2_with fail;refine (a3n _ _ l st sc d p n _ HU.o HUS.o hm hd hp HE.o).mono ?_;rintro e w1 ⟨rfl,hb⟩;have HX1:=qh (HX.o.below hb);have HE1:=qh (HE.o.below hb HE.o.size);refine zm60 ?_;intro HB1 HUS1 HP HSL;clear hb c0 c1 c2 c3 c4 c5 HX HE HB HU HUS;generalize P.sess l st sc d p n=q at *
 cases q
 .go_wp2;go_ret2;exact⟨by rw [HP.o];rfl,HB1.o⟩
 .obtain⟨hsl,hscl⟩:=HSL.o rfl;have HSL2:=qh hsl;have HSC:=qh hscl;clear hsl hscl HSL;have hdd:Bl w1 w1.drew:=bZ.drew;have HX2:=qh (HX1.o.below hdd);have HE2:=qh (HE1.o.below hdd HE1.o.size);have HB2:=bt HB1 hdd;have HUS2:=qh (HUS1.o.below hdd);clear hdd HX1 HE1 HB1 HUS1;go_upto_region 3 with fail;refine wp_region_held_drew (S:=SBox w.heap.size (.slice ad l.length cap) (.slice sd st.length sap) sc d p n) kZ HX2.o (λhS0=>?_);generalize w1.drew=v1 at *;refine tk15 0 hS0 ?_;refine tk15 1 hS0 ?_;refine tk15 2 hS0 ?_;refine tk15 6 hS0 ?_;refine tk15 7 hS0 ?_;refine tk15 8 hS0 ?_;refine trd 3 λK hK=>?_;go_simp;refine (b8p _ st _ HUS2.o HSL2.o).mono ?_;rintro e w2 ⟨rfl,hb⟩;have HE3:=qh (HE2.o.below hb HE2.o.size);have HB3:=bt HB2 hb;refine zm70 ?_;intro hS1;clear hK K hb HE2 HB2 hS0 HUS2;refine zm0 ?_;refine trd 4 λK hK=>?_;go_simp;refine (c2b st _ HE3.o.dic (P.a2y HSL2.o)).mono ?_;rintro e w3 ⟨rfl,hb⟩;have HB4:=bt HB3 hb;refine hK.out _ _ (hS1.below hb) (λhS2=>?_);clear hK K hb HE3 HB3 hS1;have hfl:=P.a2z 32 st;have hs60:=P.a2y HSL2.o;have hsc:=HSC.o;have HST:Hq (P.a5q st sc=P.fmtS 32 st++[10]++sc):=⟨rfl⟩;generalize P.fmtS 32 st=ff at *;have j1:¬9223372036854775807<ff.length+1:=by omega
  have j2:¬9223372036854775807<ff.length+1+sc.length:=by omega
  refine zm0 ?_;refine tk15 5 hS2 ?_;refine tk15 9 hS2 ?_;refine trd 10 λK hK=>?_;go_simp;refine hK.out _ _ hS2 (λhS3=>?_);clear hK K hS2;refine zm0 ?_;refine wpAnyH_done kZ ?_ _;clear hS3;rw [HST.o]at HP;have hll:(ff++[10]++sc).length=ff.length+1+sc.length:=by simp;omega
  obtain⟨tx,htx⟩:∃tx,ff++[10]++sc=tx:=⟨_,rfl⟩;have htx2:ff++10::sc=tx:=by rw [<-htx];simp
  rw [htx]at HP hll;try rw [htx]
  try rw [htx2]
  by_cases h4:4000<tx.length
  .have i4:(4000:Int)<(tx.length:Int):=by omega
   go_wp2;go_ret2;exact⟨by rw [HP.o];simp [show ¬tx.length<=4000 by omega];rfl,HB4.o⟩
  .have i4:¬(4000:Int)<(tx.length:Int):=by omega
   go_wp2;go_ret2;exact⟨by rw [HP.o];simp [show tx.length<=4000 by omega],HB4.o⟩
theorem b2d (u us:Value) (l:P.Dic) (st:List Int) (sc d p:Str) (n:Int) (w:World) (hu:EntR w u l) (hus:IntR w us st) (hm:Small l) (hd:d.length<=2^20) (hp:p.length<=2^20) :
 Cz 49 #[a1b u us sc d p n] w (a5u (P.b5c l st sc d p n) w):=by
 refine zm25 ?_;intro hb0 HU HUS HX;have HB:=qh hb0;clear hb0;obtain⟨ad,cap,rfl,_,_⟩:=hu;obtain⟨sd,sap,rfl,_,_⟩:=hus;go_enter func49,ntmps49;go_upto_region 1 with fail;generalize w.alloc (a0f (.slice ad l.length cap) (.slice sd st.length sap) sc d p n)=v0 at *;obtain⟨c0,c1,c2,c3,c4,c5,_⟩:=HX.o;go_wp2_with fail;refine (c5i _ _ l st sc d p n _ HU.o HUS.o hm hd hp).mono ?_;rintro e w1 ⟨rfl,hb⟩;have HX1:=qh (HX.o.below hb);refine zm60 ?_;intro HB1 HUS1 HP HSL;clear hb c0 c1 c2 c3 c4 c5 HX HB HU HUS;generalize P.sess l st sc d p n=q at *
 cases q
 .go_wp2;go_ret2;exact⟨by rw [HP.o];rfl,HB1.o⟩
 .obtain⟨hsl,hscl⟩:=HSL.o rfl;have HSL2:=qh hsl;have HSC:=qh hscl;have hs60:=P.a2y hsl;clear hsl hscl HSL;go_wp2
  go_loopw [4,5] (λv i wr=>∃k:Nat,k<=st.length/\i=.int .i64 k/\v=.string (S (P.fmtS 32 (st.take k)))/\Bl w1 wr) (λ_ i _=>st.length-(intOf i).toNat)
  case atStart=>exact⟨0,Nat.zero_le _,rfl,rfl,Below.refl _ _⟩
  case round=>
   obtain⟨k,hk,rfl,rfl,hbk⟩:=hrel;have HBK:=qh hbk;have HX2:=qh (HX1.o.below hbk);clear hbk;obtain⟨c0,c1,c2,c3,c4,c5,_⟩:=HX2.o
   by_cases hlt:k<st.length
   .obtain⟨m,hm',hms,hmd⟩:=P.a6p HSL2.o hlt;have HM:=qh (show m<2^23 by unfold P.a0q at hms;simp only [decide_eq_true_eq]at hms;omega);obtain⟨g,o,hga,hgl,d0⟩:=(HUS1.o.below HBK.o).at k hlt;subst hga;rw [hm']at d0;have i1:(k:Int)<(st.length:Int):=by omega
    have hfl:=P.a2z 32 (st.take k);have htk:(st.take k).length=k:=by rw [List.length_take];omega
    have HFM:=qh (P.a6b (m:Int));have hfl2:(P.fmtS 32 (st.take k)).length<=2820:=by rw [htk]at hfl;omega
    clear hfl
    by_cases hk0:k=0
    .subst hk0;have HSN:Hq (P.fmtS 32 (st.take (0+1))=P.fmtS 32 (st.take 0)++P.fmt (m:Int)):=⟨by rw [a0g st 0 hlt,hm'];exact P.c7v 32 (m:Int)⟩;clear hm' hmd hms htk;rw [Nat.add_zero]at d0;generalize P.fmtS 32 (st.take 0)=ff at *
     go_wp2_with fail
     refine (a5m m _ HM.o).mono ?_;rintro e w2 ⟨rfl,hb⟩;have HB2:=bt HBK hb;have hfm:=HFM.o;generalize P.fmt (m:Int)=fm at *;have j1:¬9223372036854775807<ff.length+fm.length:=by omega
     clear hb c0 c1 c2 c3 c4 c5 d0 HBK HX2;go_wp2
     go_roundw
     case rel=>exact⟨0+1,by omega,by go_num,by rw [HSN.o],HB2.o⟩
     case measure=>exact zq
    .have HSN:Hq (P.fmtS 32 (st.take (k+1))=P.fmtS 32 (st.take k)++[32]++P.fmt (m:Int)):=⟨by rw [a0g st k hlt,hm'];exact P.c2r 32 _ _ (λh=>by rw [h]at htk;simp at htk;omega)⟩;have i2:(0:Int)<(k:Int):=by omega
     clear hm' hmd hms;generalize P.fmtS 32 (st.take k)=ff at *;have j0:¬9223372036854775807<ff.length+1:=by omega
     go_wp2_with fail
     refine (a5m m _ HM.o).mono ?_;rintro e w2 ⟨rfl,hb⟩;have HB2:=bt HBK hb;have hfm:=HFM.o;generalize P.fmt (m:Int)=fm at *;have j1:¬9223372036854775807<ff.length+1+fm.length:=by omega
     clear hb c0 c1 c2 c3 c4 c5 d0 HBK HX2;go_wp2
     go_roundw
     case rel=>exact⟨k+1,by omega,by go_num,by rw [HSN.o];simp,HB2.o⟩
     case measure=>exact zq
   .have hkl:k=st.length:=by omega
    subst hkl;have HBL:=qh (HB1.o.trans (HBK.o.mono HB1.o.size));have hfl:=P.a2z 32 st;have hsc:=HSC.o;have HST:Hq (P.a5q st sc=P.fmtS 32 st++[10]++sc):=⟨rfl⟩;clear HBK HX2;rw [List.take_length];generalize P.fmtS 32 st=ff at *;rw [HST.o]at HP;have hll:(ff++[10]++sc).length=ff.length+1+sc.length:=by simp;omega
    have j1:¬9223372036854775807<ff.length+1:=by omega
    have j2:¬9223372036854775807<ff.length+1+sc.length:=by omega
    by_cases h4:4000<ff.length+1+sc.length
    .have i4:(4000:Int)<(ff.length:Int)+1+(sc.length:Int):=by omega
     have i5:(4000:Int)<(((ff++[10]++sc).length:Nat):Int):=by omega
     have i6:(4000:Int)<(((ff++10::sc).length:Nat):Int):=by simp;omega
     go_wp2;go_ret2;exact⟨by rw [HP.o,hll];simp [show ¬ff.length+1+sc.length<=4000 by omega];rfl,HBL.o⟩
    .have i4:¬(4000:Int)<(ff.length:Int)+1+(sc.length:Int):=by omega
     have i5:¬(4000:Int)<(((ff++[10]++sc).length:Nat):Int):=by omega
     have i6:¬(4000:Int)<(((ff++10::sc).length:Nat):Int):=by simp;omega
     go_wp2;go_ret2;exact⟨by rw [HP.o,hll];simp [show ff.length+1+sc.length<=4000 by omega],HBL.o⟩
end Go.Proofs.YtggfdnopminemaaGreatDoor
