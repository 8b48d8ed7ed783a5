/- Walks: the cursor draws. -/
import Derived.Test.YtggfdnopminemaaGreatDoorSesN
set_option linter.all false
namespace Go.Proofs.YtggfdnopminemaaGreatDoor
open Go.Proofs.Tryz
open Go Go.RowKit
set_option maxHeartbeats 8000000
set_option maxRecDepth 100000
variable {B C D K b hi lo:Nat} {l:P.Dic} {x y:Str} {u:Go.Value} {v v' w:Go.World}
def d8y (B C K:Nat) (w:World) (e:Ending) (w':World):Prop:=∃m:Nat,m<2^23/\e=.returned (.int .i64 (m:Int))/\a0e B C K w w'
theorem e2p:∀x∈([524552,260,1048576,262144]:List Int),((x.toNat:Int)==x&&decide (x.toNat<2^23))=true:=by decide
theorem e0f (B C K:Nat) (w:World) (hK:K<2^38) (h:a1o B C K w) :
 Cz 117 #[.pointer (some ⟨C,0,none⟩)] w (d8y B C (K+2) w):=by
 refine zm89 ?_;intro hlt HC HL;clear h;go_enter func117,ntmps117;go_wp2_with fail;refine (b2h B C K w.heap.size 4 [524552,260,1048576,262144] _ oZ dZ dZ sZ oZ HL.o HC.o.1).mono ?_;rintro e w1 ⟨s,hs,rfl,hc⟩;have H1:=qh (HC.o.trans hc);have HS:=qh (e2p s hs);clear hc hs;go_wp2;go_ret;have h1:=HS.o;simp only [Bool.and_eq_true,beq_iff_eq,decide_eq_true_eq]at h1;refine⟨s.toNat,h1.2,?_,H1.o⟩;rw [h1.1];rfl
structure CmSt (B C K:Nat) (w:World) (D lo hi:Nat) (u:Value) (l:P.Dic) (v:World):Prop where
 cur:a0e B C K w v
 bx:DBx D u v
 rd:a5q lo hi v u l
 low:C<lo/\C<D/\D<v.heap.size
theorem CmSt.draw {K':Nat} (h:CmSt B C K w D lo hi u l v) (hc:a0e B C K' v v'):CmSt B C K' w D lo hi u l v':=
 ⟨h.cur.trans hc,h.bx.a0b hc.2 (by have:=h.low;omega),h.rd.chg hc.2 (λb h1 h2 e=>by have:=h.low;omega),h.low.1,h.low.2.1,Nat.lt_of_lt_of_le h.low.2.2 hc.2.size⟩
theorem CmSt.call (h:CmSt B C K w D lo hi u l v) (hb:Bl v v'):CmSt B C K w D lo hi u l v':=
 ⟨h.cur.below hb,h.bx.below hb,h.rd.chg (Below.chg hb (λ_=>False)) (λ_ _ _ h=>h),h.low.1,h.low.2.1,Nat.lt_of_lt_of_le h.low.2.2 hb.size⟩
theorem a7t (B C N lo hi:Nat) (u:Value) (l:P.Dic) (w:World) (hN:N<2^30) (h:a1o B C N w) (hr:a5q lo hi w u l) (hlo:C<lo) (hd:a8p l) :
 Cz 52 #[.pointer (some ⟨C,0,none⟩),.agg #[u]] w (a9g B C (N+300) 700 w):=by
 have hlt:=h.lt
 have hl60:=hd.len
 have HDR:=qh hd
 obtain⟨ad,cap,rfl,_,_⟩:=hr.now
 have hba:=(Below.refl w.heap.size w).alloc lZ (.cells #[.slice ad l.length cap] 26)
 have HM:=qh (show CmSt B C N w w.heap.size lo hi (.slice ad l.length cap) l (w.alloc (.cells #[.slice ad l.length cap] 26)) from⟨(a0e.refl h (Nat.le_refl N)).below hba,DBx.new _ _ _,hr.chg (Below.chg hba (λ_=>False)) (λ_ _ _ h=>h),hlo,hlt.2,by simp⟩)
 clear h hr hba hd
 go_enter func52,ntmps52
 go_upto_region 1 with fail
 generalize w.alloc (.cells #[.slice ad l.length cap] 26)=W0 at *
 obtain⟨b0,_⟩:=HM.o.bx
 go_wp2_with fail
 refine (d7x B C N lo hi _ l _ oZ HM.o.cur.1 HM.o.rd hlo HDR.o).mono ?_
 rintro e w1 ⟨o,y,rfl,hol,hI,hc⟩
 obtain⟨yd,yc,rfl,_,_⟩:=id hI
 have H1:=qh (HM.o.draw hc)
 have HR1:Hq (a7j W0.heap.size w1.heap.size w1 (.slice yd o.length yc) o):=⟨hI.d9a (λb hb=>hb) lZ⟩
 have hzw:C<W0.heap.size:=by have:=HM.o.low;omega
 have hz01:W0.heap.size<=w1.heap.size:=hc.2.size
 clear hI hc HM b0
 go_wp2_with fail
 refine (d3z _ o _ HR1.o.now).mono ?_
 rintro e w2 ⟨rfl,rfl⟩
 have HQ:Hq (∀b,P.a0k o=b->P.a0k o=b):=⟨λ_ h=>h⟩
 generalize hq:P.a0k o=q at *
 go_upto_if 11 with fail
 go_cut [5] (λs wx=>∃(o:List Int) (a:Option Addr) (c:Nat),s=.slice a o.length c/\P.a0k o=true/\a7j W0.heap.size wx.heap.size wx (.slice a o.length c) o/\CmSt B C (N+200) w w.heap.size lo hi (.slice ad l.length cap) l wx)
 case first=>
  cases q
  .have HOW:=qh (World.ownsRow_lit (base:=w1.heap.size) (e:=3) (size:=1) w1 #[.int .i64 1048576] 1 lZ (by unfold maxLen;decide) sZ);have H2:=qh (H1.o.call ((Below.refl w1.heap.size w1).alloc lZ (.cells #[.int .i64 1048576] 3)));clear H1 HR1 hq;go_wp2;go_meet;exact⟨[1048576],_,_,rfl,by decide,(a2m HOW.o dZ).d9a (λb hb=>⟨Nat.le_trans hz01 hb.1,hb.2⟩) lZ,H2.o⟩
  .go_wp2;go_meet;exact⟨o,_,_,rfl,hq,HR1.o,H1.o⟩
 case rest=>
  clear HR1 H1 hq HQ hol;obtain⟨o,a,c,rfl,hok,hri,hst⟩:=hcut;have HOK:=qh hok;have HRI:=qh hri;have H2:=qh hst;have ho6:=(P.a1k hok).2;clear hok hri hst
  go_wp2_with fail
  refine (a0r B C (N+200) 12 _ oZ dZ H2.o.cur.1).mono ?_;rintro e w3 ⟨p,hp,rfl,hc⟩;have hp12:p<12:=by omega
  have H3:=qh (H2.o.draw hc);have HR3:=qh (HRI.o.chg hc.2 (λb h1 h2 e=>by omega));clear hc hp H2 HRI
  match p,hp12 with
  |0,_=>
   exact zq84
  |1,_=>
   exact zq84
  |2,_=>
   exact zq95
  |3,_=>
   exact zq95
  |4,_=>
   go_wp2;go_ret;exact⟨_,rfl,by simp,H3.o.cur.mono oZ⟩
  |5,_=>
   go_wp2_with fail
   refine (b3e _ o _ HR3.o.now HOK.o).mono ?_;rintro e w4 ⟨rfl,hb⟩;have H4:=qh (H3.o.call hb);have hfl:=P.a5h 47 o;clear hb
   go_wp2_with fail
   refine (a8w B C (N+202) _ oZ H4.o.cur.1).mono ?_;rintro e w5 ⟨t,rfl,htl,hc⟩;have H5:=qh (H4.o.draw hc);clear hc;exact e3l
  |6,_=>
   have HL:=qh (a1n [[100,101,108,101,116,101,32],[108,111,111,107,117,112,32]] w3 9);have HCA:=qh (H3.o.call ((Below.refl w3.heap.size w3).alloc lZ (.cells #[.string (S [100,101,108,101,116,101,32]),.string (S [108,111,111,107,117,112,32])] 9)));have hzl:C<w3.heap.size:=by have:=H3.o.low;omega
   go_wp2_with fail
   refine (a4h B C (N+202) w3.heap.size 2 [[100,101,108,101,116,101,32],[108,111,111,107,117,112,32]] _ oZ dZ dZ sZ oZ HL.o HCA.o.cur.1).mono ?_;rintro e w4 ⟨s,hs,rfl,hc⟩;have HR4:=qh ((HR3.o.chg (Below.chg ((Below.refl w3.heap.size w3).alloc lZ (.cells #[.string (S [100,101,108,101,116,101,32]),.string (S [108,111,111,107,117,112,32])] 9)) (λ_=>False)) (λ_ _ _ h=>h)).chg hc.2 (λb h1 h2 e=>by omega));have HS:Hq (s.length<=20):=⟨(by decide:∀s∈([[100,101,108,101,116,101,32],[108,111,111,107,117,112,32]]:List Str),s.length<=20) s hs⟩;have H4:=qh (HCA.o.draw hc);clear hc hs HL HCA
   go_wp2_with fail
   refine (b3e _ o _ HR4.o.now HOK.o).mono ?_;rintro e w5 ⟨rfl,hb⟩;have H5:=qh (H4.o.call hb);have hfl:=P.a5h 47 o;have hsl:=HS.o;clear hb;exact e3l
  |7,_=>
   by_cases hpos:0<l.length
   .have hpi:(0:Int)<(l.length:Int):=by omega
    obtain⟨b0,_⟩:=H3.o.bx;have H3d:=qh (H3.o.call (Below.refl w3.heap.size w3).drew);clear H3 HR3;go_upto_region 19 with fail;refine wp_region_held_drew (S:=DBx w.heap.size (.slice ad l.length cap)) kZ H3d.o.bx (λhS0=>?_);clear b0;generalize w3.drew=v0 at *;refine zm51 ?_;refine trd 6 λK hK=>?_;go_simp;refine (a0r B C (N+202) l.length _ oZ oZ H3d.o.cur.1).mono ?_;rintro e v1 ⟨i,hi',rfl,hc⟩;have hil:i<l.length:=by omega
    have H4:=qh (H3d.o.draw hc);refine hK.out _ _ H4.o.bx (λhS1=>?_);clear hK K hc hi' H3d hS0;obtain⟨g,o2,rfl,hg,x,c0,c1,hx⟩:=H4.o.rd.now.at i hil;clear hx c0;have htl:=HDR.o.texts _ (List.getElem_mem hil);have i1:(i:Int)<(l.length:Int):=by omega
    generalize l[i]=en at *;obtain⟨eo,et⟩:=en;simp only at c1 htl;refine zm0 ?_;refine tk5 7 (v:=.pointer (some ⟨g,o2+i*2,none⟩)) hS1 ?_;refine tk5 8 (v:=.pointer (some ⟨g,o2+i*2+1,none⟩)) hS1 ?_;refine trd 9 λK hK=>?_;go_simp;refine hK.out _ _ hS1 (λhS2=>?_);clear hK K;refine zm0 ?_;have f1:¬9223372036854775807<8+et.length:=by omega
    refine tk5 10 hS2 ?_;refine tk5 11 hS2 ?_;refine wpAnyH_done kZ ?_ _;clear hS1 hS2;exact e4l
   .have hpi:¬(0:Int)<(l.length:Int):=by omega
    obtain⟨b0,_⟩:=H3.o.bx;go_wp2;go_ret;exact⟨_,rfl,by simp,H3.o.cur.mono oZ⟩
  |8,_=>
   go_wp2_with fail
   refine (c1w B C (N+202) _ oZ H3.o.cur.1).mono ?_;rintro e w4 ⟨s,rfl,hsl,hc⟩;have H4:=qh (H3.o.draw hc);clear hc
   go_wp2_with fail
   refine (d1t B C (N+204) _ oZ H4.o.cur.1).mono ?_;rintro e w5 ⟨t,rfl,htl,hc⟩;have H5:=qh (H4.o.draw hc);clear hc;exact e3l
  |9,_=>
   have HL:=qh (a1n [[84,83],[75,65,45,84],[83,45,83],[],[83,84,83],[90,83]] w3 9);have HCA:=qh (H3.o.call ((Below.refl w3.heap.size w3).alloc lZ (.cells #[.string (S [84,83]),.string (S [75,65,45,84]),.string (S [83,45,83]),.string (S []),.string (S [83,84,83]),.string (S [90,83])] 9)));have hzl:C<w3.heap.size:=by have:=H3.o.low;omega
   go_wp2_with fail
   refine (a4h B C (N+202) w3.heap.size 6 [[84,83],[75,65,45,84],[83,45,83],[],[83,84,83],[90,83]] _ oZ dZ dZ sZ oZ HL.o HCA.o.cur.1).mono ?_;rintro e w4 ⟨s,hs,rfl,hc⟩;have HS:Hq (s.length<=20):=⟨(by decide:∀s∈([[84,83],[75,65,45,84],[83,45,83],[],[83,84,83],[90,83]]:List Str),s.length<=20) s hs⟩;have H4:=qh (HCA.o.draw hc);clear hc hs HL HCA;have hsl:=HS.o;exact e4l
  |10,_=>
   have HL:=qh (a1n [[],[119,104,97,116],[112,114,101,115,115],[112,114,101,115,115,32,84,83],[100,101,102,105,110,101,32,75,65,84],[117,110,100,111,32,110,111,119],[106,111,105,110,32,97],[97,62,98],[112,114,101,115,115,32,42],[116,121,112,101,32,42,47,42],[114,101,118,101,114,115,101,32,123],[115,99,114,101,101,110,32]] w3 9);have HCA:=qh (H3.o.call ((Below.refl w3.heap.size w3).alloc lZ (.cells #[.string (S []),.string (S [119,104,97,116]),.string (S [112,114,101,115,115]),.string (S [112,114,101,115,115,32,84,83]),.string (S [100,101,102,105,110,101,32,75,65,84]),.string (S [117,110,100,111,32,110,111,119]),.string (S [106,111,105,110,32,97]),.string (S [97,62,98]),.string (S [112,114,101,115,115,32,42]),.string (S [116,121,112,101,32,42,47,42]),.string (S [114,101,118,101,114,115,101,32,123]),.string (S [115,99,114,101,101,110,32])] 9)));have hzl:C<w3.heap.size:=by have:=H3.o.low;omega
   go_wp2_with fail
   refine (a4h B C (N+202) w3.heap.size 12 [[],[119,104,97,116],[112,114,101,115,115],[112,114,101,115,115,32,84,83],[100,101,102,105,110,101,32,75,65,84],[117,110,100,111,32,110,111,119],[106,111,105,110,32,97],[97,62,98],[112,114,101,115,115,32,42],[116,121,112,101,32,42,47,42],[114,101,118,101,114,115,101,32,123],[115,99,114,101,101,110,32]] _ oZ dZ dZ sZ oZ HL.o HCA.o.cur.1).mono ?_;rintro e w4 ⟨s,hs,rfl,hc⟩;have HS:Hq (s.length<=20):=⟨(by decide:∀s∈([[],[119,104,97,116],[112,114,101,115,115],[112,114,101,115,115,32,84,83],[100,101,102,105,110,101,32,75,65,84],[117,110,100,111,32,110,111,119],[106,111,105,110,32,97],[97,62,98],[112,114,101,115,115,32,42],[116,121,112,101,32,42,47,42],[114,101,118,101,114,115,101,32,123],[115,99,114,101,101,110,32]]:List Str),s.length<=20) s hs⟩;exact zq159
  |11,_=>
   have HL:=qh (a1n [[115,99,114,101,101,110],[99,111,117,110,116],[112,105,101,99,101,115],[115,99,114,101,101,110]] w3 9);have HCA:=qh (H3.o.call ((Below.refl w3.heap.size w3).alloc lZ (.cells #[.string (S [115,99,114,101,101,110]),.string (S [99,111,117,110,116]),.string (S [112,105,101,99,101,115]),.string (S [115,99,114,101,101,110])] 9)));have hzl:C<w3.heap.size:=by have:=H3.o.low;omega
   go_wp2_with fail
   refine (a4h B C (N+202) w3.heap.size 4 [[115,99,114,101,101,110],[99,111,117,110,116],[112,105,101,99,101,115],[115,99,114,101,101,110]] _ oZ dZ dZ sZ oZ HL.o HCA.o.cur.1).mono ?_;rintro e w4 ⟨s,hs,rfl,hc⟩;have HS:Hq (s.length<=20):=⟨(by decide:∀s∈([[115,99,114,101,101,110],[99,111,117,110,116],[112,105,101,99,101,115],[115,99,114,101,101,110]]:List Str),s.length<=20) s hs⟩;exact zq159
def RBx (b:Nat) (x y:Str) (v:World):Prop:=v.cell? ⟨b,0,none⟩=some (.string (S x))/\v.cell? ⟨b,1,none⟩=some (.string (S y))/\v.frozen? ⟨b,0,none⟩=false/\v.frozen? ⟨b,1,none⟩=false/\b<v.heap.size
theorem RBx.a0b {X:Blk} (h:RBx b x y v) (hc:Chg X v v') (hX:¬X b):RBx b x y v':=
 ⟨(hc.cell (p:=⟨b,0,none⟩) h.2.2.2.2 hX).trans h.1,(hc.cell (p:=⟨b,1,none⟩) h.2.2.2.2 hX).trans h.2.1,(hc.frozen (p:=⟨b,0,none⟩) h.2.2.2.2 hX).trans h.2.2.1,(hc.frozen (p:=⟨b,1,none⟩) h.2.2.2.2 hX).trans h.2.2.2.1,Nat.lt_of_lt_of_le h.2.2.2.2 hc.size⟩
theorem RBx.alloc (h:RBx b x y v) (o:Obj):RBx b x y (v.alloc o):=h.a0b (Below.chg (bZ.alloc lZ o) λ_=>False) λh=>h
theorem RBx.new (x y:Str) (t:TypeId) (v:World):RBx v.heap.size x y (v.alloc (.cells #[.string (S x),.string (S y)] t)):=by
 refine⟨?_,?_,?_,?_,?_⟩<;>go_simp
theorem e1e:(Tryz.prog.info? 5).map (λi=>(i.zero,i.size,i.bytes))=some (some (.int .u8 0),1,1):=by kernel_rfl
theorem e1f (w:World):(Instr.makeSlice 22 (.int .i64 3) (.int .i64 3)).run Tryz.prog w=.ok (.slice (some ⟨w.heap.size,0,none⟩) 3 3) (w.alloc (.cells #[.int .u8 0,.int .u8 0,.int .u8 0] 5)):=by
 obtain⟨i,hi,he⟩:=Option.map_eq_some_iff.mp e1e;simp only [Prod.mk.injEq]at he;obtain⟨hz,hs,hb⟩:=he;have h:=run_make (P:=Tryz.prog) w 22 5 i (.int .u8 0) underlying22 hi hz .i64 .i64 3 3 oZ oZ (by rw [hb];decide) dZ;rw [hs,show madeCells (Value.int .u8 0).cells (Int.toNat 3*1)=#[.int .u8 0,.int .u8 0,.int .u8 0] by simp [madeCells,Value.cells,<-Array.toList_inj,List.range_succ]]at h;exact h
def e0x (B C K:Nat) (w:World) (e:Ending) (w':World):Prop:=∃c r:Str,c.length<=16/\r.length<=16/\e=.returned (.agg #[.string (S c),.string (S r)])/\a0e B C K w w'
theorem d2h (B C K:Nat) (t u:Str) (w:World) (hK:K<2^38) (ht:t.length<=2^30) (hu:u.length<=2^20) (hu0:0<u.length) (h:a1o B C K w) :
 Cz 105 #[.pointer (some ⟨C,0,none⟩),.string (S t),.string (S u)] w λe w'=>∃s:Str,s.length<=t.length+1/\e=.returned (.string (S s))/\a0e B C (K+6) w w':=by
 have HC:=qh h;clear h
 cases t with
 |nil=>
  go_enter func105,ntmps105
  go_wp2;go_ret;exact⟨u.take 1,by simp;omega,rfl,a0e.refl HC.o oZ⟩
 |cons a t'=>
  obtain⟨t,htt⟩:∃t,t=a::t':=⟨_,rfl⟩;rw [<-htt]at ht⊢;have ht0:0<t.length:=by rw [htt];simp
  have hbe:(t==[])=false:=by rw [htt];rfl
  clear htt
  go_enter func105,ntmps105
  go_wp2_with fail
  refine (a0r B C K t.length w oZ oZ HC.o).mono ?_;rintro e w1 ⟨i,hi,rfl,hc⟩;have hil:i<t.length:=by omega
  have H1:=qh hc;clear hc hi
  go_wp2_with fail
  refine (a0r B C (K+2) u.length w1 oZ oZ H1.o.1).mono ?_;rintro e w2 ⟨j,hj,rfl,hc⟩;have hjl:j<u.length:=by omega
  have H2:=qh (H1.o.trans hc);clear hc hj H1
  go_wp2_with fail
  refine (a0r B C (K+4) 3 w2 oZ oZ H2.o.1).mono ?_;rintro e w3 ⟨k,hk,rfl,hc⟩;have hkl:k<3:=by omega
  have H3:=qh (H2.o.trans hc);clear hc hk H2;have hi1:i+1<=t.length:=hil;have hmin:min i t.length=i:=Nat.min_eq_left oZ;obtain⟨c,hc⟩:∃c,c=List.take 1 (List.drop j u):=⟨_,rfl⟩;have hcl:c.length<=1:=by rw [hc];simp;omega
  have f1:¬9223372036854775807<i+c.length:=by omega
  have f2:¬9223372036854775807<i+c.length+(t.length-i):=by omega
  have f3:¬9223372036854775807<i+c.length+(t.length-(i+1)):=by omega
  have f4:¬9223372036854775807<i+(t.length-(i+1)):=by omega
  match k,hkl with
  |0,_=>
   go_wp2;rw [<-hc]
   go_quiet (fail)
   go_wp2;go_ret;exact⟨List.take i t++(List.take 1 (List.drop j u)++List.drop i t),by simp;omega,rfl,H3.o.drewN _⟩
  |1,_=>
   go_wp2;rw [<-hc]
   go_quiet (fail)
   go_wp2;go_ret;exact⟨List.take i t++(List.take 1 (List.drop j u)++List.drop (i+1) t),by simp;omega,rfl,H3.o.drewN _⟩
  |2,_=>
   go_wp2
   go_quiet (fail)
   go_wp2;go_ret;exact⟨List.take i t++List.drop (i+1) t,by simp;omega,rfl,H3.o.drewN _⟩
theorem b9h (B C K:Nat) (w:World) (hK:K<2^38) (h:a1o B C K w) :
 Cz 55 #[.pointer (some ⟨C,0,none⟩)] w (e0x B C (K+8) w):=by
 have P0:=qh (a0e.refl h lZ)
 obtain⟨hBC,hC⟩:=h.lt
 clear h
 go_enter func55,ntmps55
 go_wp2_with fail
 refine (a4h B C K _ _ [[99,111,117,110,116],[112,114,101,115,115,32,75,65,84],[120],[108,111,111,107,117,112,32,75,65,84],[48,32,49]] _ oZ dZ dZ sZ oZ ?_ ((P0.o.alloc _).alloc _).1).mono ?_
 .exact e5b
 rintro e w1 ⟨s,hs,rfl,hc⟩
 have P1:=qh (((P0.o.alloc _).alloc _).trans hc)
 have hsl:s.length<=16:=(by decide:∀s∈([[99,111,117,110,116],[112,114,101,115,115,32,75,65,84],[120],[108,111,111,107,117,112,32,75,65,84],[48,32,49]]:List Str),s.length<=16) s hs
 have R1:=qh (((RBx.new [] [] 86 w).alloc _).a0b hc.2 oZ)
 clear hc hs
 go_wp2_with fail
 refine (a4h B C (K+2) _ _ [[],[51],[63],[97,62,98],[45,49,43,105,110,103]] _ oZ dZ dZ sZ (by have:=R1.o.2.2.2.2;omega) ?_ (P1.o.alloc _).1).mono ?_
 .exact e5b
 rintro e w2 ⟨r,hs,rfl,hc⟩
 have P2:=qh ((P1.o.alloc _).trans hc)
 have hrl:r.length<=16:=(by decide:∀s∈([[],[51],[63],[97,62,98],[45,49,43,105,110,103]]:List Str),s.length<=16) r hs
 have R2:=qh ((R1.o.alloc _).a0b hc.2 oZ)
 clear hc hs R1 P1
 have hz2:w.heap.size<w2.heap.size:=R2.o.2.2.2.2
 go_wp2_with fail
 refine (a0r B C (K+4) 24 _ oZ oZ (P2.o.alloc _).1).mono ?_
 rintro e w3 ⟨k,_,rfl,hc⟩
 have P3:=qh ((P2.o.alloc _).trans hc)
 have R3:=qh ((R2.o.alloc _).a0b hc.2 oZ)
 have E3:=qh ((RBx.new s r 86 w2).a0b hc.2 oZ)
 have hz3:w2.heap.size<w3.heap.size:=E3.o.2.2.2.2
 clear hc R2 P2
 obtain⟨k0,k1,g0,g1,_⟩:=R3.o
 obtain⟨e0,e1,m0,m1,_⟩:=E3.o
 by_cases hk0:k=0
 .subst hk0;have hz03:w.heap.size<w3.heap.size:=by omega
  have hback:=run_convert_bytes_back (P:=Tryz.prog) (w3.alloc (.cells #[.int .u8 0,.int .u8 0,.int .u8 0] 5)) 22 9 5 ⟨w3.heap.size,0,none⟩ 3 [0,0,0] underlying22 underlying5 underlying9 (by
   intro j hj
   rw [add0]
   match j,hj with|0,_=>go_simp|1,_=>go_simp|2,_=>go_simp)
  rw [show ([0,0,0]:List UInt8).length=3 from rfl]at hback;have hmk:(Instr.makeSlice 22 (.int .i64 3) (.int .i64 3)).run Tryz.prog w3=.ok (.slice (some ⟨w3.heap.size,0,none⟩) 3 3) (w3.alloc (.cells #[.int .u8 0,.int .u8 0,.int .u8 0] 5)):=e1f w3
  go_wp2_with fail
  refine (a4h B C (K+6) _ _ [[],[97,62,98],[97,35],[10],[0,0,0]] _ oZ dZ dZ sZ oZ ?_ ((P3.o.alloc _).alloc _).1).mono ?_
  .exact e5b
  rintro e w4 ⟨x,hs,rfl,hc⟩;have P4:=qh (((P3.o.alloc _).alloc _).trans hc);have hxl:x.length<=16:=(by decide:∀s∈([[],[97,62,98],[97,35],[10],[0,0,0]]:List Str),s.length<=16) x hs;have R4:=qh (((R3.o.alloc _).alloc _).a0b hc.2 oZ);have E4:=qh (((E3.o.alloc _).alloc _).a0b hc.2 oZ);clear hc hs k0 k1 g0 g1 e0 e1 m0 m1 P3 R3 E3 hmk hback;obtain⟨k0,k1,g0,g1,_⟩:=R4.o;obtain⟨e0,e1,m0,m1,_⟩:=E4.o;go_wp2;refine bodyPost_ret (v:=.agg #[.string (S x),.string (S r)]) (by simp [results,results55,go_sem,k0,k1]) rfl ⟨x,r,by omega,by omega,rfl,?_⟩;exact zq171
 .by_cases hk1:k=1
  .subst hk1
   go_wp2_with fail
   refine (a4h B C (K+6) _ _ [[35],[10],[127]] _ oZ dZ dZ sZ oZ ?_ (P3.o.alloc _).1).mono ?_
   .intro j hj
    match j,hj with|0,_=>go_simp|1,_=>go_simp|2,_=>go_simp
   rintro e w4 ⟨x,hs,rfl,hc⟩;have P4:=qh ((P3.o.alloc _).trans hc);have hxl:x.length<=16:=(by decide:∀s∈([[35],[10],[127]]:List Str),s.length<=16) x hs;have R4:=qh ((R3.o.alloc _).a0b hc.2 oZ);have E4:=qh ((E3.o.alloc _).a0b hc.2 oZ);clear hc hs k0 k1 g0 g1 e0 e1 m0 m1 P3 R3 E3;obtain⟨k0,k1,g0,g1,_⟩:=R4.o;obtain⟨e0,e1,m0,m1,_⟩:=E4.o;go_wp2;refine bodyPost_ret (v:=.agg #[.string (S s),.string (S x)]) (by simp [results,results55,go_sem,k0,k1]) rfl ⟨s,x,by omega,by omega,rfl,?_⟩;exact zq171
  .have hx0:¬(k:Int)=0:=by omega
   have hx1:¬(k:Int)=1:=by omega
   go_wp2;refine bodyPost_ret (v:=.agg #[.string (S s),.string (S r)]) (by simp [results,results55,go_sem,k0,k1]) rfl ⟨s,r,by omega,by omega,rfl,?_⟩;exact ((P3.o.set oZ oZ oZ _).set oZ oZ oZ _).mono oZ
end Go.Proofs.YtggfdnopminemaaGreatDoor
namespace Go.Proofs.YtggfdnopminemaaGreatDoor.L
open Go.Proofs.Tryz
open Go Go.RowKit
set_option maxHeartbeats 8000000
set_option maxRecDepth 100000
theorem b1g (d p:Str) (n:Int) (c r:Str) (w:World) (hd:d.length<=2^20) (hp:p.length<=2^20) (hc:c.length<=2^20) (hr:r.length<=2^20) (hE:Env w) :
 Cz 54 #[logV d p n,.agg #[.string (S c),.string (S r)]] w λe w'=>e=.returned (.tuple #[logV d (P.appS d p n c r).1 (P.appS d p n c r).2.1,.int .i64 (P.appS d p n c r).2.2])/\Bl w w':=by
 have A1:=qh (AB.start (w:=w) (d:=d) (p:=p) (n:=n) (c:=c) (r:=r) (t:=28) (u:=86) hE)
 clear hE
 cases h1:P.a0j d p n
 .have HF:=qh (show P.appS d p n c r=(p,n,1) by unfold P.appS;rw [h1];rfl);go_enter func54,ntmps54;go_wp2_with fail;refine zm80 ?_;rintro e w1 ⟨rfl,hb⟩;refine zn25 ?_;intro A2 a1 a2 a3 b1 b2 c1 c2 c3 d1 d2 d3 e1 e2 e3 hz;clear hb A1;go_wp2;refine bodyPost_ret (v:=.tuple #[logV d p n,.int .i64 1]) (by simp [results,results54,go_sem,c1,c2,c3]) rfl ⟨by rw [HF.o],?_⟩;exact ((A2.o.below.setCell (by simp;omega) _).setCell (by simp;omega) _).setCell (by simp;omega) _
 .cases h2:P.good c r
  .have HF:=qh (show P.appS d p n c r=(p,n,1) by unfold P.appS;rw [h1,h2];rfl);go_enter func54,ntmps54;go_wp2_with fail;refine zm80 ?_;rintro e w1 ⟨rfl,hb⟩;refine zn25 ?_;intro A2 a1 a2 a3 b1 b2 c1 c2 c3 d1 d2 d3 e1 e2 e3 hz;clear hb A1;go_wp2_with fail;refine zm64 ?_;rintro e w2 ⟨rfl,hb⟩;refine zn72 ?_;clear hb A2 a1 a2 a3 b1 b2 c1 c2 c3 d1 d2 d3 e1 e2 e3 hz;intro A3 a1 a2 a3 b1 b2 c1 c2 c3 d1 d2 d3 e1 e2 e3 hz;go_wp2;refine bodyPost_ret (v:=.tuple #[logV d p n,.int .i64 1]) (by simp [results,results54,go_sem,c1,c2,c3]) rfl ⟨by rw [HF.o],?_⟩;exact zq97
  .cases h3:(n==60)
   .obtain⟨hn0,hn1,_⟩:=P.a8f h1;obtain⟨x,hx⟩:∃x,P.line n.toNat c r=x:=⟨_,rfl⟩;have HX:=qh hx;have HF:=qh (show P.appS d p n c r=(p++x,n+1,0) by unfold P.appS;rw [h1,h2,h3,hx];rfl)
    have hxl:x.length<=10000:=by
     rw [<-hx];have h6:n≠60:=by simpa using h3
     have:=(P.a5j (k:=n.toNat) oZ h2).1;omega
    clear hx;have f1:¬9223372036854775807<p.length+x.length:=by omega
    go_enter func54,ntmps54;go_wp2_with fail;refine zm80 ?_;rintro e w1 ⟨rfl,hb⟩;refine zn25 ?_;intro A2 a1 a2 a3 b1 b2 c1 c2 c3 d1 d2 d3 e1 e2 e3 hz;clear hb A1;go_wp2_with fail;refine zm64 ?_;rintro e w2 ⟨rfl,hb⟩;refine zn72 ?_;clear hb A2 a1 a2 a3 b1 b2 c1 c2 c3 d1 d2 d3 e1 e2 e3 hz;intro A3 a1 a2 a3 b1 b2 c1 c2 c3 d1 d2 d3 e1 e2 e3 hz;go_upto_region 5 with fail;have A4:AB w d p n c r w2.drew:=A3.o.carry (bZ.drew);clear a1 a2 a3 b1 b2 c1 c2 c3 d1 d2 d3 e1 e2 e3 hz A3;have A5:=qh A4;obtain⟨⟨a1,a2,a3⟩,⟨b1,b2⟩,⟨c1,c2,c3⟩,⟨d1,d2,d3⟩,⟨e1,e2,e3⟩,hz,_⟩:=A4;go_region_law ((go_simp;go_at_call 122;refine (d3t _ _ _ _ hn0 oZ oZ oZ).mono ?_;rintro e v ⟨rfl,hb⟩;rw [HX.o];have A6:=qh (A5.o.carry hb);obtain⟨⟨a1,a2,a3⟩,⟨b1,b2⟩,⟨c1,c2,c3⟩,⟨d1,d2,d3⟩,⟨e1,e2,e3⟩,hz,_⟩:=A6.o;clear hb));all_goals
     go_wp2
     refine bodyPost_ret (v:=.tuple #[logV d (p++x) (n+1),.int .i64 0]) (by simp [results,results54,go_sem,c1,c2,c3]) rfl ⟨by rw [HF.o],?_⟩
     exact (((((A6.o.below.setCell sZ _).setCell sZ _).setCell (by simp;omega) _).setCell (by simp;omega) _).setCell (by simp;omega) _)
   .have HF:=qh (show P.appS d p n c r=(p,n,2) by unfold P.appS;rw [h1,h2,h3];rfl);go_enter func54,ntmps54;go_wp2_with fail;refine zm80 ?_;rintro e w1 ⟨rfl,hb⟩;refine zn25 ?_;intro A2 a1 a2 a3 b1 b2 c1 c2 c3 d1 d2 d3 e1 e2 e3 hz;clear hb A1;go_wp2_with fail;refine zm64 ?_;rintro e w2 ⟨rfl,hb⟩;refine zn72 ?_;clear hb A2 a1 a2 a3 b1 b2 c1 c2 c3 d1 d2 d3 e1 e2 e3 hz;intro A3 a1 a2 a3 b1 b2 c1 c2 c3 d1 d2 d3 e1 e2 e3 hz;go_wp2;refine bodyPost_ret (v:=.tuple #[logV d p n,.int .i64 2]) (by simp [results,results54,go_sem,c1,c2,c3]) rfl ⟨by rw [HF.o],?_⟩;exact zq97
end Go.Proofs.YtggfdnopminemaaGreatDoor.L
