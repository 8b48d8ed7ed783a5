/- Walks: recovery of a. -/
import Derived.Test.YtggfdnopminemaaGreatDoorLRecs
set_option linter.all false
namespace Go.Proofs.YtggfdnopminemaaGreatDoor.L
open Go.Proofs.Tryz
open Go Go.RowKit
set_option maxHeartbeats 8000000
set_option maxRecDepth 100000
def e2w (s:Str) (w:World) (e:Ending) (w':World):Prop:=e=.returned (.tuple #[logV (P.recover s).1 [] (P.recover s).2.1,.int .i64 (P.recover s).2.2.1,.bool (P.recover s).2.2.2])/\Bl w w'
theorem c4x (s:Str) (w:World) (hs:s.length<=2^27) (hE:Env w) :
 Cz 21 #[.string (S s)] w (e2w s w):=by
 have HE:=qh hE;clear hE
 by_cases h:s.length<=30000
 .have HF:=qh (show P.recover s=_ by unfold P.recover;rw [if_pos h]);obtain⟨j0,ji,jz0,jz1,jz2⟩:=info_parts a2i;obtain⟨hl1,hl2⟩:=P.d2d s;have h0:¬(30000:Int)<(s.length:Int):=by omega
  rw [P.a1s]at HF hl1 hl2
  have hlast:(P.a8t s)[(P.readAll s).2.1.length]?.getD 0=((P.readAll s).2.2:Int):=by
   have h1:=P.b1r s;have h2:=P.a7s (P.pos s 60 0 0) 0
   have h3:(P.readAll s).2.1.length=(P.pos s 60 0 0).length:=by
    have:=congrArg List.length h1.1
    simpa [P.a8t] using this
   rw [h1.1,h1.2,h3]
   simpa using h2
  have hrl:=(P.a4o s).2;unfold P.a8t at hlast;generalize hR:P.readAll s=R at *;have HR:=qh hR;clear hR;have HL:=qh hlast;clear hlast
  go_enter func21,ntmps21
  go_wp2_with fail
  refine (read _ _ oZ (HE.o.alloc _)).mono ?_;rintro e w1 ⟨v,u,rfl,hown,howi,hb⟩;rw [HR.o]at hown howi;obtain⟨ad,cp,rfl⟩:=b1i hown;obtain⟨hcc,hff⟩:=a6a hb;have hz:=c5a hb;have HOWI:=qh howi;have HB:=qh hb;clear hown howi hb;have hrl3:R.2.1.length<=60:=by omega
  have z0:w1.cell? ⟨w.heap.size,0,none⟩=some (.string (S [])):=by rw [hcc _ _ sZ];go_simp
  have z1:w1.cell? ⟨w.heap.size,1,none⟩=some (.string (S [])):=by rw [hcc _ _ sZ];go_simp
  have z2:w1.cell? ⟨w.heap.size,2,none⟩=some (.int .i64 0):=by rw [hcc _ _ sZ];go_simp
  have x0:w1.frozen? ⟨w.heap.size,0,none⟩=false:=by rw [hff _ _ sZ];go_simp
  have x1:w1.frozen? ⟨w.heap.size,1,none⟩=false:=by rw [hff _ _ sZ];go_simp
  have x2:w1.frozen? ⟨w.heap.size,2,none⟩=false:=by rw [hff _ _ sZ];go_simp
  clear hcc hff
  go_wp2_with (at_builtin;refine a0w rfl (.tmp 17) (.tmp 18) 33 rfl w.heap.size 3 j0 (.int .i64 0) 1 8 underlying33 ji jz0 jz1 jz2 rfl dZ _ _ _ rfl (d3s w1 w.heap.size (Nat.le_of_lt hz) 0) _ _ _ rfl (c8s (World.ownsRow.alloc HOWI.o _)) ?c3 ?c4 ?c5 ?_)
  case c3=>unfold maxLen;simp;omega
  case c4=>simp;omega
  case c5=>simp;omega
  intro v' w2 hown' hgrow _;rw [show (Value.slice (some ⟨w1.heap.size,0,none⟩) 1 1).ownBlock=some w1.heap.size from rfl]at hgrow;obtain⟨st,hst⟩:∃st:List Int,st=0::R.2.1:=⟨_,rfl⟩;have hstl:st.length=R.1.length+1:=by rw [hst];simp;omega
  have hstn:st≠[]:=by rw [hst];simp
  have hS:a4b w.heap.size w2 v' st:=by rw [hst];unfold a4b;rw [List.length_cons,Nat.add_comm];simpa [a5x,hrl] using hown'
  obtain⟨g,cp2,rfl,hg,hgl,hcell⟩:=c2c hS hstn;have keep:∀o x,w1.cell? ⟨w.heap.size,o,none⟩=some x->w2.cell? ⟨w.heap.size,o,none⟩=some x:=λo x hx=>hgrow.cell (a6s hx _) (by show some w.heap.size≠some w1.heap.size;intro e;injection e with e;omega);obtain⟨ad2,cp3,hu⟩:=d0o HOWI.o;subst hu;have keepf:∀o,w2.frozen? ⟨w.heap.size,o,none⟩=w1.frozen? ⟨w.heap.size,o,none⟩:=λo=>(World.frozen?_of_block (w:=w1.alloc (.cells #[.int .i64 0] 3)) (a:=⟨w.heap.size,o,none⟩) (hgrow.block w.heap.size (by simp;omega) (by show some w.heap.size≠some w1.heap.size;intro e;injection e with e;omega))).trans (by go_simp);have h0:=(keepf 0).trans x0;have h1:=(keepf 1).trans x1;have h2:=(keepf 2).trans x2;have k0:=keep 0 _ z0;have k1:=keep 1 _ z1;have k2:=keep 2 _ z2;have hcl:=hcell R.1.length oZ
  have hv:st[R.1.length]'(by omega)=(R.2.2:Int):=by
   rw [<-HL.o,hrl,<-hst,List.getElem?_eq_getElem oZ];rfl
  rw [hv]at hcl;refine zm92 ?_;intro hB;have HBB:=qh hB;have hlt2:R.1.length<st.length:=by omega
  rw [hrl];clear hB hcell hS hown' hgrow keep keepf HOWI HB z0 z1 z2 x0 x1 x2 hst hv HL;go_wp2;refine bodyPost_ret (v:=.tuple #[logV (s.take R.2.2) [] R.1.length,.int .i64 R.2.2,.bool true]) (by simp [results,results21,go_sem,k0,k1,k2]) rfl ⟨by rw [HF.o],?_⟩;exact ((HBB.o.setCell lZ _).setCell lZ _).setCell lZ _
 .have HF:=qh (show P.recover s=_ by unfold P.recover;rw [if_neg h]);have h0:(30000:Int)<(s.length:Int):=by omega
  go_enter func21,ntmps21
  go_wp2;refine bodyPost_ret (v:=.tuple #[logV [] [] 0,.int .i64 0,.bool false]) (by simp [results,results21,go_sem]) rfl ⟨by rw [HF.o],?_⟩;exact (Below.refl w.heap.size w).alloc lZ _
end Go.Proofs.YtggfdnopminemaaGreatDoor.L
namespace Go.Proofs.YtggfdnopminemaaGreatDoor
open Go.Proofs.Tryz
variable {X:Blk} {W g lo:Nat} {u:Go.Value} {v v' w:Go.World}
open Go Go.RowKit
set_option maxHeartbeats 8000000
set_option maxRecDepth 100000
theorem vBig (v:Value) (n:Nat) (ad:Option Addr) (cap:Nat) (hv:v=.slice ad n cap) (hn:n<=maxLen) (w:World) :
 Cz 10 #[v] w λe w'=>e=.returned (.bool (decide (65536<n)))/\w=w':=by
 subst hv
 unfold maxLen at hn
 go_enter func10,ntmps10
 by_cases h:65536<n
 .have h1:(65536:Int)<(n:Int):=by omega
  go_wp2;go_ret;exact⟨by simp [h],rfl⟩
 .have h1:¬(65536:Int)<(n:Int):=by omega
  go_wp2;go_ret;exact⟨by simp [h],rfl⟩
theorem vInts (u v:Value) (l m:List Int) (w:World) (hu:IntR w u l) (hv:IntR w v m) :
 Cz 27 #[u,v] w λe w'=>e=.returned (.bool (decide (l=m)))/\Bl w w':=by
 have HU:=qh hu;have HV:=qh hv
 obtain⟨ad,cap,rfl,hla,_⟩:=hu
 obtain⟨bd,dap,rfl,hlb,_⟩:=hv
 go_enter func27,ntmps27
 by_cases hlen:l.length=m.length
 .have hli:(l.length:Int)=(m.length:Int):=by omega
  go_wp2
  go_loopw [5] (λi wr=>∃j:Nat,j<=l.length/\i=.int .i64 j/\(∀k (h:k<j) (h1:k<l.length) (h2:k<m.length),l[k]=m[k])/\Bl w wr) (λi _=>l.length-(intOf i).toNat)
  case atStart=>exact⟨0,Nat.zero_le _,rfl,λk h=>absurd h (Nat.not_lt_zero _),Below.refl _ _⟩
  case round=>
   obtain⟨j,hj,rfl,hsame,hb⟩:=hrel;have HB:=qh hb;have HS:=qh hsame;clear hsame
   by_cases hlt:j<l.length
   .obtain⟨g,o,hga,hgl,c0⟩:=(HU.o.below hb).at j hlt;obtain⟨g',o',hgb,hgl',d0⟩:=(HV.o.below hb).at j oZ;subst hga hgb;clear hb;have i1:(j:Int)<(l.length:Int):=by omega
    have i2:(j:Int)<(m.length:Int):=by omega
    have hjm:j<m.length:=by omega
    by_cases hx:l[j]=m[j]
    .have HX:=qh hx;rw [hx]at c0
     go_wp2_with fail
     go_quiet (fail)
     go_wp2
     go_roundw
     case rel=>
      refine⟨j+1,by omega,by go_num,λk hk h1 h2=>?_,below_drewN HB.o _⟩
      by_cases e:k=j
      .subst e;exact HX.o
      .exact HS.o k oZ h1 h2
     case measure=>exact zq
    .have hne:¬l=m:=λe=>hx (by subst e;rfl)
     go_wp2_with fail
     go_quiet (fail)
     go_wp2;go_ret;exact⟨by rw [decide_eq_false hne];rfl,below_drewN HB.o _⟩
   .clear hb;have he:l=m:=List.ext_getElem hlen λk h1 h2=>HS.o k oZ h1 h2;go_wp2;go_ret;exact⟨by rw [decide_eq_true he];rfl,HB.o⟩
 .have hli:¬(l.length:Int)=(m.length:Int):=by omega
  have hne:¬l=m:=λe=>hlen (by rw [e]);go_wp2;go_ret;exact⟨by rw [decide_eq_false hne];rfl,Below.refl _ _⟩
def VDS (W:Nat) (u v:Value) (g p g' q:Nat) (x y s:Value) (w:World):Prop:=
 w.cell? ⟨W,0,none⟩=some u/\w.cell? ⟨W+1,0,none⟩=some v/\w.cell? ⟨g,p,none⟩=some x/\w.cell? ⟨g,p+1,none⟩=some s/\w.cell? ⟨g',q,none⟩=some y/\w.cell? ⟨g',q+1,none⟩=some s/\W+1<w.heap.size/\g<w.heap.size/\g'<w.heap.size
theorem VDS.below {v:Value} {p g' q:Nat} {x y s:Value} {w':World} (h:VDS W u v g p g' q x y s w) (hb:Bl w w'):VDS W u v g p g' q x y s w':=by
 obtain⟨h1,h2,h3,h4,h5,h6,h7,h8,h9⟩:=h;have hz:=hb.size;exact⟨(hb.cell (p:=⟨W,0,none⟩) (by show W<_;omega)).trans h1,(hb.cell (p:=⟨W+1,0,none⟩) h7).trans h2,(hb.cell (p:=⟨g,p,none⟩) h8).trans h3,(hb.cell (p:=⟨g,p+1,none⟩) h8).trans h4,(hb.cell (p:=⟨g',q,none⟩) h9).trans h5,(hb.cell (p:=⟨g',q+1,none⟩) h9).trans h6,by omega,by omega,by omega⟩
theorem vDict (u v:Value) (l:P.Dic) (w:World) (hu:EntR w u l) (hv:EntR w v l) :
 Cz 64 #[.agg #[u],.agg #[v]] w λe w'=>e=.returned (.bool true)/\Bl w w':=by
 have hb0:Bl w ((w.alloc (.cells #[u] 26)).alloc (.cells #[v] 26)):=((Below.refl w.heap.size w).alloc lZ _).alloc sZ _
 have HU:=qh (hu.below hb0);have HV:=qh (hv.below hb0);have HB0:=qh hb0
 have HX:=qh ((DBx.new u 26 w).below (bZ.alloc lZ (.cells #[v] 26)))
 have HY:=qh (show DBx (w.heap.size+1) v ((w.alloc (.cells #[u] 26)).alloc (.cells #[v] 26)) by
  have h:=DBx.new v 26 (w.alloc (.cells #[u] 26));simpa using h)
 obtain⟨ad,cap,rfl,hla,_⟩:=hu
 obtain⟨bd,dap,rfl,_,_⟩:=hv
 clear hb0
 go_enter func64,ntmps64
 go_wp2
 generalize hW:(w.alloc (.cells #[.slice ad l.length cap] 26)).alloc (.cells #[.slice bd l.length dap] 26)=w0 at *
 clear hW
 go_loopw [5] (λi wr=>∃j:Nat,j<=l.length/\i=.int .i64 j/\Bl w0 wr) (λi _=>l.length-(intOf i).toNat)
 case atStart=>exact⟨0,Nat.zero_le _,rfl,Below.refl _ _⟩
 case round=>
  obtain⟨j,hj,rfl,hb⟩:=hrel;have HB:=qh hb;obtain⟨x0,_⟩:=HX.o.below hb;obtain⟨y0,_⟩:=HY.o.below hb
  by_cases hlt:j<l.length
  .obtain⟨g,o,hga,hgl,x,c0,c1,hx⟩:=(HU.o.below hb).at j hlt;obtain⟨g',o',hgb,hgl',y,d0,d1,hy⟩:=(HV.o.below hb).at j hlt;subst hga hgb;obtain⟨xd,xc,rfl,_,_⟩:=id hx;obtain⟨yd,yc,rfl,_,_⟩:=id hy;have HXX:=qh hx;have HYY:=qh hy;generalize l[j]=en at *;obtain⟨eo,et⟩:=en;simp only at HXX HYY c0 c1 d0 d1;have HBW:=qh (hb.trans ((Below.refl wr.heap.size wr).drew.mono hb.size));have hdw:=(Below.refl wr.heap.size wr).drew;have HXW:=qh (HXX.o.below hdw);have HYW:=qh (HYY.o.below hdw);have hz:w.heap.size+1<wr.heap.size:=(HY.o.below hb).2.2;have HS:Hq (VDS w.heap.size (.slice (some ⟨g,o,none⟩) l.length cap) (.slice (some ⟨g',o',none⟩) l.length dap) g (o+j*2) g' (o'+j*2) (.slice xd eo.length xc) (.slice yd eo.length yc) (.string (S et)) wr.drew):=⟨VDS.below ⟨x0,y0,c0,c1,d0,d1,hz,hgl,hgl'⟩ hdw⟩;have i1:(j:Int)<(l.length:Int):=by omega
   clear hb hx hy hdw c0 c1 d0 d1 hgl hgl' HXX HYY;go_upto_region 6 with fail;clear x0 y0;refine wp_region_held_drew (S:=VDS w.heap.size (.slice (some ⟨g,o,none⟩) l.length cap) (.slice (some ⟨g',o',none⟩) l.length dap) g (o+j*2) g' (o'+j*2) (.slice xd eo.length xc) (.slice yd eo.length yc) (.string (S et))) kZ HS.o (λhS0=>?_);generalize wr.drew=v0 at *;refine tk6 0 hS0 ?_;refine tk6 1 hS0 ?_;refine tk6 2 hS0 ?_;refine tk6 3 (v:=.pointer (some ⟨g,o+j*2,none⟩)) hS0 ?_;refine tk6 4 (v:=.pointer (some ⟨g,o+j*2+1,none⟩)) hS0 ?_;refine tk6 5 hS0 ?_;refine tk6 6 hS0 ?_;refine tk6 7 hS0 ?_;refine tk6 8 hS0 ?_;refine tk6 9 (v:=.pointer (some ⟨g',o'+j*2,none⟩)) hS0 ?_;refine tk6 10 (v:=.pointer (some ⟨g',o'+j*2+1,none⟩)) hS0 ?_;refine tk6 11 hS0 ?_;refine tk6 12 hS0 ?_;refine tk6 13 hS0 ?_;refine tk6 14 hS0 ?_;refine tk6 15 hS0 ?_;refine tk6 16 hS0 ?_;refine tk6 17 (v:=.pointer (some ⟨g,o+j*2,none⟩)) hS0 ?_;refine tk6 18 (v:=.pointer (some ⟨g,o+j*2,none⟩)) hS0 ?_;refine tk6 19 hS0 ?_;refine tk6 20 hS0 ?_;refine tk6 21 hS0 ?_;refine tk6 22 hS0 ?_;refine tk6 23 (v:=.pointer (some ⟨g',o'+j*2,none⟩)) hS0 ?_;refine tk6 24 (v:=.pointer (some ⟨g',o'+j*2,none⟩)) hS0 ?_;refine tk6 25 hS0 ?_;refine trd 26 λK hK=>?_;go_simp;refine (vInts _ _ eo eo _ HXW.o HYW.o).mono ?_;rintro e v ⟨rfl,hb⟩;rw [decide_eq_true rfl];refine zm71 ?_;intro hS1;have HB2:=bt HBW hb;clear hK K hb;refine zm0 ?_;refine tk6 27 hS1 ?_;refine tk6 28 hS1 ?_;refine wpAnyH_done kZ ?_ _;clear hS0 hS1 HS;go_wp2;go_roundw
   case rel=>exact⟨j+1,by omega,by go_num,HB2.o⟩
   case measure=>exact zq
  .clear hb;go_wp2;go_ret;exact⟨rfl,HB0.o.trans (HB.o.mono HB0.o.size)⟩
theorem c7l (u v:Value) (l:List Int) (t:Str) (w:World) (hu:IntR w u l) (hv:IntR w v l) :
 Cz 65 #[.agg #[u,.string (S t)],.agg #[v,.string (S t)]] w λe w'=>e=.returned (.bool true)/\Bl w w':=by
 have hb0:Bl w ((w.alloc (.cells #[u,.string (S t)] 35)).alloc (.cells #[v,.string (S t)] 35)):=
  ((Below.refl w.heap.size w).alloc lZ _).alloc sZ _
 have HU:=qh (hu.below hb0);have HV:=qh (hv.below hb0);have HB0:=qh hb0;clear hb0;obtain⟨ad,cap,rfl,hla,_⟩:=hu;obtain⟨bd,dap,rfl,_,_⟩:=hv;go_enter func65,ntmps65;go_wp2_with fail;refine (vInts _ _ l l _ HU.o HV.o).mono ?_;rintro e w1 ⟨rfl,hb⟩;rw [show decide (l=l)=true from decide_eq_true rfl];refine zm59 ?_;intro HB1;clear hb;go_wp2;go_ret;exact⟨rfl,HB1.o⟩
theorem e0p (u v us vs:Value) (l:P.Dic) (ks:List Int) (sc d p:Str) (n:Int) (w:World) (hu:EntR w u l) (hv:EntR w v l) (hus:IntR w us ks) (hvs:IntR w vs ks) :
 Cz 17 #[a1a u us sc d p n,a1a v vs sc d p n] w λe w'=>e=.returned (.bool true)/\Bl w w':=by
 have hb1:Bl w (w.alloc (a0d u us sc d p n)):=(Below.refl w.heap.size w).alloc lZ _;have hb0:Bl w ((w.alloc (a0d u us sc d p n)).alloc (a0d v vs sc d p n)):=hb1.alloc sZ _;have B1:=qh ((SBox.new u us sc d p n w).below (bZ.alloc lZ (a0d v vs sc d p n)));have B2:=qh (show SBox (w.heap.size+1) v vs sc d p n ((w.alloc (a0d u us sc d p n)).alloc (a0d v vs sc d p n)) by have:=SBox.new v vs sc d p n (w.alloc (a0d u us sc d p n));simpa using this);have HU:=qh (hu.below hb0);have HV:=qh (hv.below hb0);have HUS:=qh (hus.below hb0);have HVS:=qh (hvs.below hb0);have HB0:=qh hb0;clear hb0 hb1;obtain⟨ad,cap,rfl,_,_⟩:=hu;obtain⟨bd,dap,rfl,_,_⟩:=hv;obtain⟨sd,sap,rfl,_,_⟩:=hus;obtain⟨td,tap,rfl,_,_⟩:=hvs;go_enter func17,ntmps17;go_wp2_with fail;refine (vDict _ _ l _ HU.o HV.o).mono ?_;rintro e w1 ⟨rfl,hb⟩;have B11:=qh (B1.o.below hb);have B21:=qh (B2.o.below hb);have HUS1:=qh (HUS.o.below hb);have HVS1:=qh (HVS.o.below hb);refine zm59 ?_;intro HB1;clear hb HU HV HB0 B1 B2 HUS HVS;obtain⟨_,a1,a2,a3,a4,a5,a6⟩:=B11.o;obtain⟨_,b1,b2,b3,b4,b5,b6⟩:=B21.o;go_wp2_with fail;refine (c7l _ _ ks sc _ HUS1.o HVS1.o).mono ?_;rintro e w2 ⟨rfl,hb⟩;have B12:=qh (B11.o.below hb);have B22:=qh (B21.o.below hb);have HB2:=bt HB1 hb;clear hb HB1 B11 B21 HUS1 HVS1 a1 a2 a3 a4 a5 b1 b2 b3 b4 b5;obtain⟨_,_,_,a3,a4,a5,_⟩:=B12.o;obtain⟨_,_,_,b3,b4,b5,_⟩:=B22.o;go_wp2;go_ret;exact⟨rfl,HB2.o⟩
theorem c3g (t:Str) (w:World) (ht:t.length<=4000) :
 Cz 18 #[.string (S t),.string (S [10])] w λe w'=>∃v,e=.returned (.tuple #[v,.bool true])/\a0x w.heap.size w' v (P.split 10 t)/\Bl w w':=by
 have h1:¬(4000:Int)<(t.length:Int):=by omega
 go_enter func18,ntmps18
 go_wp2_with fail
 refine (b2i t _ oZ).mono ?_
 rintro e w1 ⟨v,rfl,ho,hb⟩
 have HO:=qh ho;have HB:=qh hb
 clear ho hb
 go_wp2
 go_ret2
 exact⟨v,rfl,HO.o,HB.o⟩
theorem a7n.a0b {l:List Str} (h:a7n g l v) (hc:Chg X v v') (hX:¬X g):a7n g l v':=
 ⟨⟨Nat.lt_of_lt_of_le h.1.1 hc.size,by obtain⟨c,f,k⟩:=h.1.2;exact⟨c,f,(hc.block g h.1.1 hX).trans k⟩⟩,λj hj=>(hc.cell (p:=⟨g,j,none⟩) h.1.1 hX).trans (h.2 j hj)⟩
def RlX (W:Nat) (dv:Value) (d p:Str) (n:Int) (v:World):Prop:=v.cell? ⟨W,0,none⟩=some dv/\v.cell? ⟨W+1,0,none⟩=some (.string (S d))/\v.cell? ⟨W+1,1,none⟩=some (.string (S p))/\v.cell? ⟨W+1,2,none⟩=some (.int .i64 n)/\W+1<v.heap.size
theorem RlX.below {dv:Value} {d p:Str} {n:Int} (h:RlX W dv d p n v) (hb:Bl v v'):RlX W dv d p n v':=
 ⟨(hb.cell (p:=⟨W,0,none⟩) (by have:=h.2.2.2.2;show W<_;omega)).trans h.1,(hb.cell (p:=⟨W+1,0,none⟩) h.2.2.2.2).trans h.2.1,(hb.cell (p:=⟨W+1,1,none⟩) h.2.2.2.2).trans h.2.2.1,(hb.cell (p:=⟨W+1,2,none⟩) h.2.2.2.2).trans h.2.2.2.1,Nat.lt_of_lt_of_le h.2.2.2.2 hb.size⟩
theorem RlX.new (w:World) (dv:Value) (d p:Str) (n:Int) (t1 t2:TypeId):RlX w.heap.size dv d p n ((w.alloc (.cells #[dv] t1)).alloc (.cells #[.string (S d),.string (S p),.int .i64 n] t2)):=by
 refine⟨?_,?_,?_,?_,by simp⟩<;>go_simp
theorem SesM.store {B lo' B2:Nat} {s s2:P.Ses} {g g2:P.LogT} {u2 us2:Value} (h:SesM lo B s g v) (hr:a3b lo' B2 v u2 us2 s2.1 s2.2.1) (hB:B<lo') (hlo:lo<=lo'):SesM lo B s2 g2 (wr6 v B u2 us2 s2.2.2 g2.1 g2.2.1 g2.2.2):=by
 have hc:=a3m v B u2 us2 s2.2.2 g2.1 g2.2.1 g2.2.2;obtain⟨h0,h1,u,us,h2,_⟩:=h;obtain⟨F,G,k1,k2,k3,k4,k5⟩:=hr;have hr':a3b lo B v u2 us2 s2.1 s2.2.1:=⟨F,G,k1,k2,λb hb=>by have:=k3 b hb;omega,λb hb=>by have:=k4 b hb;omega,k5⟩;exact⟨h0,Nat.le_trans h1 hc.size,u2,us2,a5o h2 _ _ _ _ _ _,hr'.a0b hc (λb e=>.inl e)⟩
theorem SesM.new {w1:World} {l:P.Dic} (hE:L.EB<=w.heap.size) (hlo:lo<=w.heap.size) (hb:Bl w w1) (hD:Ents w1 (Bet w.heap.size w1.heap.size) u l):SesM lo w1.heap.size (P.ses0 l).1 (P.ses0 l).2 (w1.alloc (a0d u (.slice none 0 0) [] [] [] 0)):=by
 have hz:=hb.size;have hba:=(Below.refl w1.heap.size w1).alloc lZ (a0d u (.slice none 0 0) [] [] [] 0);refine⟨by omega,Nat.le_trans (Nat.le_trans hlo hz) hba.size,u,.slice none 0 0,SOut.new _ _ _ _ _ _ _,_,_,hD.below a0f hba,a7b (B:=w1.heap.size) (World.ownsRow_nil _ _ _ _) (by simp [P.ses0]),λb h=>⟨Nat.le_trans hlo h.1,Nat.lt_of_lt_of_le h.2 hba.size,Nat.ne_of_lt h.2⟩,λb h=>?_,λb _ h=>?_⟩
 .have:=h.2;simp [Value.ownBlock]at this
 .have:=h.2;simp [Value.ownBlock]at this
theorem c5k {l:List (Str×Str)} (h:L.RowR u g l v) (hc:Chg X v v') (hX:l=[]\/¬X g):L.RowR u g l v':=by
 obtain⟨ad,cap,h1,h2,h3⟩:=h;refine⟨ad,cap,h1,h2,?_⟩
 rcases h3 with h3|⟨k1,k2,k3⟩
 .exact .inl h3
 rcases hX with hX|hX
 .exact .inl hX
 refine .inr ⟨k1,Nat.lt_of_lt_of_le k2 hc.size,λj hj=>?_⟩;obtain⟨a,b,c,d⟩:=k3 j hj;exact⟨(hc.cell (p:=⟨g,_,none⟩) k2 hX).trans a,(hc.cell (p:=⟨g,_,none⟩) k2 hX).trans b,(hc.frozen (p:=⟨g,_,none⟩) k2 hX).trans c,(hc.frozen (p:=⟨g,_,none⟩) k2 hX).trans d⟩
def b1k (r:Nat×Bool) (w:World) (e:Ending) (w':World):Prop:=e=.returned (.tuple #[.int .i64 (r.1:Int),.bool r.2])/\Bl w w'
theorem d2b (lo B:Nat) (l:P.Dic) (st:List Int) (sc d p:Str) (n:Int) (word more:Str) (w:World) (h:SesM lo B (l,(st,sc)) (d,p,n) w) (hm:Small l) (ht:P.trans l (st,sc)=true) (hl:more.length<=2^20) (hE:L.Env w) :
 Cz 70 #[.pointer (some ⟨B,0,none⟩),.string (S word),.string (S more)] w (a5v lo B (P.args (l,(st,sc)) word more) (d,p,n) w):=by
 have HSM:=qh h;have HE:=qh hE;have HT:=qh ht
 have HP0:Hq (P.args (l,(st,sc)) word more=if word=P.d4z then P.a5w (l,(st,sc)) more else if word=P.d1x\/word=P.b4e\/word=P.c6d then P.a6b (l,(st,sc)) word more else if word=P.c7q then P.a1h (l,(st,sc)) more else if word=P.c1g then ((l,(st,sc)),P.a4r l more) else if word=P.e3r then ((l,(st,sc)),P.a0u more) else if word=P.d7z then ((l,(st,sc)),P.b6s more) else ((l,(st,sc)),none)):=⟨rfl⟩
 have HDC:=qh (P.a9x ht)
 clear h hE ht
 by_cases h1:word=[112,114,101,115,115]
 .have HP0:=qh (HP0.o.trans (if_pos h1));have f1:=P.beqB h1;clear h1
  go_enter func70,ntmps70
  go_wp2_with fail
  refine (a8s more _ oZ).mono ?_;rintro e w1 ⟨rfl,hb⟩;have HB1:=qh hb;clear hb;have HPR:Hq (P.a5w (l,(st,sc)) more=if (P.parse more).2 then P.typed (l,(st,sc)) [((P.parse more).1:Int)] else ((l,(st,sc)),none)):=⟨rfl⟩;generalize P.parse more=q at *;obtain⟨k,q⟩:=q;simp only at HPR⊢
  cases q
  .have HP:=qh (HP0.o.trans (HPR.o.trans (if_neg dZ)));go_wp2;go_ret2;exact HSM.o.keep (x:=[]) HB1.o HP.o
  .have HP:=qh (HP0.o.trans (HPR.o.trans (if_pos rfl)));have hba:=(Below.refl w1.heap.size w1).alloc lZ (.cells #[.int .i64 (k:Int)] 3);have HB2:=bt HB1 hba;have HS2:=qh (HSM.o.below HB2.o);have HE2:=qh (HE.o.below HB2.o HE.o.size);have HO:=qh (c1j (k:Int) w1);clear hba
   go_wp2_with fail
   refine (b1h lo B _ l st [(k:Int)] sc d p n _ HS2.o hm HT.o HO.o HE2.o).mono ?_;rintro e w2 hmp;obtain⟨x,ok,rfl,hx,hs,hc⟩:=hmp.after HB2.o;have HX:=qh hx;have HS:=qh hs;have HC:=qh hc;clear hmp hx hs hc;exact zq26
 have HP1:=qh (HP0.o.trans (if_neg h1))
 have f1:=P.beqN h1
 clear HP0 h1
 by_cases ho_type:word=[116,121,112,101]
 .have HP:=qh (HP1.o.trans (if_pos (.inl ho_type)));have f_type:=P.beqB ho_type;clear ho_type;exact e4u
 by_cases ho_delete:word=[100,101,108,101,116,101]
 .have HP:=qh (HP1.o.trans (if_pos (.inr (.inl ho_delete))));have f_type:=P.beqN ho_type;have f_delete:=P.beqB ho_delete;clear ho_delete ho_type;exact e4u
 by_cases ho_lookup:word=[108,111,111,107,117,112]
 .have HP:=qh (HP1.o.trans (if_pos (.inr (.inr ho_lookup))));have f_type:=P.beqN ho_type;have f_delete:=P.beqN ho_delete;have f_lookup:=P.beqB ho_lookup;clear ho_lookup ho_type ho_delete;exact e4u
 have HP2:=qh (HP1.o.trans (if_neg (λh=>by rcases h with h|h|h;exact ho_type h;exact ho_delete h;exact ho_lookup h)))
 have f_type:=P.beqN ho_type;have f_delete:=P.beqN ho_delete;have f_lookup:=P.beqN ho_lookup
 clear HP1 ho_type ho_delete ho_lookup
 by_cases h3:word=[100,101,102,105,110,101]
 .have HP:=qh (HP2.o.trans (if_pos h3));have f3:=P.beqB h3;clear h3
  go_enter func70,ntmps70
  go_wp2_with fail
  refine (c3i lo B l st sc d p n more _ HSM.o hm HT.o hl HE.o).mono ?_;exact zq23
 have HP3:=qh (HP2.o.trans (if_neg h3))
 have f3:=P.beqN h3
 clear HP2 h3
 by_cases h4:word=[114,101,118,101,114,115,101]
 .have HP:=qh (HP3.o.trans (if_pos h4));have f4:=P.beqB h4;clear h4
  go_enter func70,ntmps70
  go_wp2_with fail
  refine (c0x lo B l st sc d p n more _ HSM.o hm HDC.o hl HE.o).mono ?_;exact zq23
 have HP4:=qh (HP3.o.trans (if_neg h4))
 have f4:=P.beqN h4
 clear HP3 h4
 by_cases h5:word=[106,111,105,110]
 .have HP:=qh (HP4.o.trans (if_pos h5));have f5:=P.beqB h5;have HJ:=qh (P.d2f more);have hcl:=P.a9f more [32];clear h5
  go_enter func70,ntmps70
  go_wp2_with fail
  refine (L.c0k more 32 _ oZ HE.o).mono ?_;rintro e w1 ⟨rfl,k1,rfl⟩;obtain⟨x,y,q,hcut⟩:∃x y b,Lib.cut more [32]=(x,y,b):=⟨_,_,_,rfl⟩;rw [hcut]at HJ hcl⊢;simp only at HJ hcl⊢;clear hcut;have HB1:Hq (Bl w (w.drewN k1)):=⟨below_drewN bZ _⟩;generalize w.drewN k1=w1 at *
  go_wp2_with fail
  refine (a9d x y _ oZ oZ).mono ?_;rintro e w2 ⟨rfl,hb⟩;have HB2:=bt HB1 hb;clear hb;go_wp2;go_ret2;exact⟨_,_,rfl,by rw [HP.o,<-HJ.o];rfl,by rw [HP.o];exact HSM.o.below HB2.o,Below.chg HB2.o _⟩
 have HP5:=qh (HP4.o.trans (if_neg h5))
 have f5:=P.beqN h5
 clear HP4 h5
 by_cases h6:word=[108,111,111,115,101]
 .have HP0:=qh (HP5.o.trans (if_pos h6));have f6:=P.beqB h6;clear h6
  go_enter func70,ntmps70
  go_wp2_with fail
  refine (a9r more _ oZ).mono ?_;rintro e w1 ⟨rfl,hb⟩;have HB1:=qh hb;clear hb;have HPL:Hq (P.b6s more=if (P.loose more).2 then some (P.fmt ((P.loose more).1:Int)) else none):=⟨rfl⟩;have HLS:=qh (P.a9i (t:=more));generalize P.loose more=q at *;obtain⟨k,q⟩:=q;simp only at HPL HLS⊢
  cases q
  .have HP:Hq (P.args (l,(st,sc)) word more=((l,(st,sc)),none)):=⟨by rw [HP0.o,HPL.o];rfl⟩;go_wp2;go_ret2;exact HSM.o.keep (x:=[]) HB1.o HP.o
  .have HST:=qh (HLS.o rfl)
   go_wp2_with fail
   refine (a3i k _ HST.o).mono ?_;rintro e w2 ⟨rfl,hb⟩;have HB2:=bt HB1 hb;clear hb;go_wp2;go_ret2;exact⟨_,_,rfl,by rw [HP0.o,HPL.o];rfl,by rw [HP0.o];exact HSM.o.below HB2.o,Below.chg HB2.o _⟩
 have HP:=qh (HP5.o.trans (if_neg h6))
 have f6:=P.beqN h6
 clear HP5 h6
 go_enter func70,ntmps70
 go_wp2
 go_ret2
 exact HSM.o.keep (x:=[]) bZ HP.o
end Go.Proofs.YtggfdnopminemaaGreatDoor
