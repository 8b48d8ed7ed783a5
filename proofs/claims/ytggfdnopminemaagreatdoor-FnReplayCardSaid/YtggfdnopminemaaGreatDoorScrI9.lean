/- Walks: the law's own. -/
import Derived.Test.YtggfdnopminemaaGreatDoorScrI2
set_option linter.all false
namespace Go.Proofs.YtggfdnopminemaaGreatDoor
open Go.Proofs.Tryz
variable {X:Blk} {n:Int} {l:List Int} {B b c:Nat} {a:Option Go.Addr} {d p sc t:Str} {dv u us x:Go.Value} {v v':Go.World}
theorem zn11 {p q:Prop} (h:q) (e:Hq q->p:=by intro q0;have HLn:=qh (HL.o.below hb);have HRn:=qh (PrR.called HL.o hb ho);refine hK.out _ _ HLn.o.s (λhS9=>?_);clear hS9;revert HLn HRn;exact q0.o):p:=e ⟨h⟩
theorem zn19 {p q:Prop} (h:q) (e:Hq q->p:=by intro q0;have HLE:=qh hle;have HP:=qh (show P.a3j l (st,t) (o,et)=(((bk,(st,s1)),(en,ee)),true) by rw [HYES.o (by first|rfl|trivial) HFI.o];rw [HSC.o,hle]);obtain⟨k0,⟨_,k1,k2,_⟩,_⟩:=HX4.o;have HRD:Hq (RdR w.heap.size w2.heap.size (.slice ua bk.length uc) (.slice sd st.length sc) t w4.drew):=⟨RdR.below ⟨HDB.o.1,k1,k2,HDB.o.2,by omega⟩ bZ.drew⟩;have HXD:=qh (HX4.o.below bZ.drew);have HBD:=qh (HB4.o.trans (bZ.drew.mono HB4.o.size));have HID4:=qh (HI4.o.below a0f bZ.drew);have hzd:w4.heap.size<=w4.drew.heap.size:=Nat.le_refl _;clear k0 k1 k2;revert HLE HP HRD HXD HBD HID4 hzd;exact q0.o):p:=e ⟨h⟩
theorem zn25 {p q:Prop} (h:q) (e:Hq q->p:=by intro q0;have A2:=qh (A1.o.carry hb);obtain⟨⟨a1,a2,a3⟩,⟨b1,b2⟩,⟨c1,c2,c3⟩,⟨d1,d2,d3⟩,⟨e1,e2,e3⟩,hz,_⟩:=A2.o;rw [h1];revert A2 a1 a2 a3 b1 b2 c1 c2 c3 d1 d2 d3 e1 e2 e3 hz;exact q0.o):p:=e ⟨h⟩
theorem zn50 {p q:Prop} (h:q) (e:Hq q->p:=by intro q0;(try rw [hV]);obtain⟨q0,q1,q2,q3,q4,q5,q6⟩:=HRV.o.1;revert q0 q1 q2 q3 q4 q5 q6;exact q0.o):p:=e ⟨h⟩
theorem zn72 {p q:Prop} (h:q) (e:Hq q->p:=by intro q0;have A3:=qh (A2.o.carry hb);obtain⟨⟨a1,a2,a3⟩,⟨b1,b2⟩,⟨c1,c2,c3⟩,⟨d1,d2,d3⟩,⟨e1,e2,e3⟩,hz,_⟩:=A3.o;rw [h2];revert A3 a1 a2 a3 b1 b2 c1 c2 c3 d1 d2 d3 e1 e2 e3 hz;exact q0.o):p:=e ⟨h⟩
section
open Go Go.RowKit
set_option maxHeartbeats 8000000
set_option maxRecDepth 100000
abbrev a0y (u:Value) (sc:Str):Value:=.agg #[u,.string (S sc)]
abbrev logV (d p:Str) (n:Int):Value:=.agg #[.string (S d),.string (S p),.int .i64 n]
abbrev a1a (u us:Value) (sc d p:Str) (n:Int):Value:=.agg #[u,us,.string (S sc),.string (S d),.string (S p),.int .i64 n]
def SBox (b:Nat) (u us:Value) (sc d p:Str) (n:Int) (v:World):Prop:=
 v.cell? ⟨b,0,none⟩=some u/\v.cell? ⟨b,1,none⟩=some us/\v.cell? ⟨b,2,none⟩=some (.string (S sc))/\v.cell? ⟨b,3,none⟩=some (.string (S d))/\v.cell? ⟨b,4,none⟩=some (.string (S p))/\v.cell? ⟨b,5,none⟩=some (.int .i64 n)/\b<v.heap.size
theorem SBox.a0b (h:SBox b u us sc d p n v) (hc:Chg X v v') (hX:¬X b):SBox b u us sc d p n v':=by
 obtain⟨h0,h1,h2,h3,h4,h5,h6⟩:=h;exact⟨(hc.cell (p:=⟨b,0,none⟩) h6 hX).trans h0,(hc.cell (p:=⟨b,1,none⟩) h6 hX).trans h1,(hc.cell (p:=⟨b,2,none⟩) h6 hX).trans h2,(hc.cell (p:=⟨b,3,none⟩) h6 hX).trans h3,(hc.cell (p:=⟨b,4,none⟩) h6 hX).trans h4,(hc.cell (p:=⟨b,5,none⟩) h6 hX).trans h5,Nat.lt_of_lt_of_le h6 hc.size⟩
theorem SBox.below (h:SBox b u us sc d p n v) (hb:Bl v v'):SBox b u us sc d p n v':=
 h.a0b (Below.chg hb λ_=>False) λh=>h
abbrev a0d (u us:Value) (sc d p:Str) (n:Int):Obj:=.cells #[u,us,.string (S sc),.string (S d),.string (S p),.int .i64 n] 37
theorem SBox.new (u us:Value) (sc d p:Str) (n:Int) (v:World):SBox v.heap.size u us sc d p n (v.alloc (a0d u us sc d p n)):=by
 refine⟨?_,?_,?_,?_,?_,?_,by simp⟩<;>go_simp
def c8e (l:P.Dic) (w:World) (e:Ending) (w':World):Prop:=
 ∃u,e=.returned (.tuple #[a1a u (.slice none 0 0) [] [] [] 0,.bool (P.dic l)])/\Ents w' (Bet w.heap.size w'.heap.size) u (P.kept (P.dic l) l)/\Bl w w'
def NBox (W:Nat) (dv:Value) (v:World):Prop:=
 v.cell? ⟨W,0,none⟩=some dv/\SBox (W+1) (.slice none 0 0) (.slice none 0 0) [] [] [] 0 v/\(∀o,v.frozen? ⟨W+1,o,none⟩=false)
theorem NBox.step {W:Nat} (h:NBox W dv v) (hb:Bl v v'):NBox W dv v':=by
 obtain⟨h1,h2,h3⟩:=h;have hz:=h2.2.2.2.2.2.2;exact⟨(hb.cell (p:=⟨W,0,none⟩) (by show W<_;omega)).trans h1,h2.below hb,λo=>(hb.frozen (p:=⟨W+1,o,none⟩) hz).trans (h3 o)⟩
theorem NBox.new (dv:Value) (v:World) (t:TypeId):NBox v.heap.size dv ((v.alloc (.cells #[dv] t)).alloc (a0d (.slice none 0 0) (.slice none 0 0) [] [] [] 0)):=by
 refine⟨by go_simp,?_,λo=>?_⟩
 .have:=SBox.new (.slice none 0 0) (.slice none 0 0) [] [] [] 0 (v.alloc (.cells #[dv] t))
  simpa using this
 .simp
theorem b7d (dv:Value) (l:P.Dic) (w:World) (hu:EntR w dv l) (hs:Small l) :
 Cz 16 #[.agg #[dv]] w (c8e l w):=by
 refine zm62 ?_;intro HU HB0 HN HSM;clear hs;obtain⟨ad,cap,rfl,_,_⟩:=hu;go_enter func16,ntmps16;go_wp2_with fail;refine (b7x _ l _ HU.o HSM.o.texts).mono ?_;rintro e w1 ⟨rfl,hb⟩;have HU1:=qh (HU.o.below hb);have HN1:=qh (HN.o.step hb);have hz1:w.heap.size+2<=w1.heap.size:=by have:=hb.size;simp at this;omega
 refine zm59 ?_;intro HB1;clear hb HU HB0 HN;obtain⟨a0,⟨b0,b1,b2,b3,b4,b5,_⟩,f⟩:=HN1.o;have f0:=f 0;have f1:=f 1;have f2:=f 2;have f3:=f 3;have f4:=f 4;have f5:=f 5;clear f
 cases hd:P.dic l
 .have HD:=qh hd;clear hd;clear a0;go_wp2;refine bodyPost_ret (v:=.tuple #[a1a (.slice none 0 0) (.slice none 0 0) [] [] [] 0,.bool false]) (by simp [results,results16,go_sem,b0,b1,b2,b3,b4,b5]) rfl ⟨_,by rw [HD.o],?_,?_⟩
  .rw [HD.o];exact RowO.nil _ _
  .exact zq160
 .have HD:=qh hd;clear hd;clear b0 b1 b2 b3 b4 b5 f0 f1 f2 f3 f4 f5
  go_wp2_with fail
  refine (d8h _ l _ HU1.o HSM.o.len HSM.o.outs).mono ?_;rintro e w2 ⟨u,rfl,hI,hb⟩;have HN2:=qh (HN1.o.step hb);have HI:=qh hI;have HB2:=bt HB1 hb;obtain⟨ud,uc,rfl,_,_⟩:=hI;clear hb HN1 HU1 HB1 a0;obtain⟨a0,⟨b0,b1,b2,b3,b4,b5,_⟩,f⟩:=HN2.o;have f0:=f 0;have f1:=f 1;have f2:=f 2;have f3:=f 3;have f4:=f 4;have f5:=f 5;clear f a0;go_wp2;refine bodyPost_ret (v:=.tuple #[a1a (.slice ud l.length uc) (.slice none 0 0) [] [] [] 0,.bool true]) (by simp [results,results16,go_sem,b0,b1,b2,b3,b4,b5]) rfl ⟨_,by rw [HD.o],?_,?_⟩
  .exact zq79
  .exact zq161
theorem a9l (dv:Value) (l:P.Dic) (w:World) (hu:EntR w dv l) (hs:Small l) (hE:Env w) :
 Cz 15 #[.agg #[dv]] w (c8e l w):=by
 refine zm62 ?_;intro HU HB0 HN HSM;clear hs;have HE:=qh ((hE.alloc (.cells #[dv] 26)).alloc (a0d (.slice none 0 0) (.slice none 0 0) [] [] [] 0));clear hE;obtain⟨ad,cap,rfl,_,_⟩:=hu;go_enter func15,ntmps15;go_wp2_with fail;refine (a1e _ l _ HU.o HSM.o.texts HE.o).mono ?_;rintro e w1 ⟨rfl,hb⟩;have HU1:=qh (HU.o.below hb);have HN1:=qh (HN.o.step hb);have hz1:w.heap.size+2<=w1.heap.size:=by have:=hb.size;simp at this;omega
 refine zm59 ?_;intro HB1;clear hb HU HB0 HN;obtain⟨a0,⟨b0,b1,b2,b3,b4,b5,_⟩,f⟩:=HN1.o;have f0:=f 0;have f1:=f 1;have f2:=f 2;have f3:=f 3;have f4:=f 4;have f5:=f 5;clear f
 cases hd:P.dic l
 .have HD:=qh hd;clear hd;clear a0;go_wp2;refine bodyPost_ret (v:=.tuple #[a1a (.slice none 0 0) (.slice none 0 0) [] [] [] 0,.bool false]) (by simp [results,results15,go_sem,b0,b1,b2,b3,b4,b5]) rfl ⟨_,by rw [HD.o],?_,?_⟩
  .rw [HD.o];exact RowO.nil _ _
  .exact zq160
 .have HUP:=qh (P.d5o hd);have HD:=qh hd;clear hd;clear b0 b1 b2 b3 b4 b5 f0 f1 f2 f3 f4 f5
  go_wp2_with fail
  refine (a9e _ l _ HU1.o HUP.o HSM.o.len HSM.o.outs).mono ?_;rintro e w2 ⟨u,rfl,hI,hb⟩;have HN2:=qh (HN1.o.step hb);have HI:=qh hI;have HB2:=bt HB1 hb;obtain⟨ud,uc,rfl,_,_⟩:=hI;clear hb HN1 HU1 HB1 a0;obtain⟨a0,⟨b0,b1,b2,b3,b4,b5,_⟩,f⟩:=HN2.o;have f0:=f 0;have f1:=f 1;have f2:=f 2;have f3:=f 3;have f4:=f 4;have f5:=f 5;clear f a0;go_wp2;refine bodyPost_ret (v:=.tuple #[a1a (.slice ud l.length uc) (.slice none 0 0) [] [] [] 0,.bool true]) (by simp [results,results15,go_sem,b0,b1,b2,b3,b4,b5]) rfl ⟨_,by rw [HD.o],?_,?_⟩
  .exact zq79
  .exact zq161
end
open Go Go.RowKit
set_option maxRecDepth 100000
theorem has (u:Value) (l:List Int) (x:Int) (w:World) (hu:IntR w u l) :
 Cz 183 #[u,.int .i64 x] w λe w'=>e=.returned (.bool (l.contains x))/\w'=w:=by
 obtain⟨ad,cap,rfl,⟨hl,hc⟩,hn,h3⟩:=hu
 have HC:=qh (show Cz 246 #[.slice ad l.length cap,.int .i64 x] w λe w'=>e=.returned (.bool (l.contains x))/\w'=w by
  rcases h3 with rfl|⟨g,o,rfl,hg,hcell⟩
  .exact Tryz.slices_Contains_int_empty ad cap x w
  .have h:=Tryz.slices_Contains_int g o l.length cap l x w lZ oZ (λj hj=>by rw [hcell j hj];simp [hj]);rw [List.take_length]at h;exact h)
 clear h3 hn
 obtain⟨q,hq⟩:∃q,l.contains x=q:=⟨_,rfl⟩
 rw [hq]at HC⊢
 clear hq
 go_enter func183,ntmps183
 go_wp2_with fail
 refine HC.o.mono ?_
 rintro e w' ⟨rfl,rfl⟩
 go_wp2
 go_ret
 exact⟨rfl,rfl⟩
def TBx (b:Nat) (u:Value) (t:Str) (v:World):Prop:=b<v.heap.size/\v.cell? ⟨b,0,none⟩=some u/\v.cell? ⟨b,1,none⟩=some (.string (S t))/\v.frozen? ⟨b,0,none⟩=false/\v.frozen? ⟨b,1,none⟩=false
theorem TBx.below (h:TBx b u t v) (hb:Bl v v'):TBx b u t v':=by
 exact zq112
theorem TBx.new (u:Value) (t:Str) (v:World):TBx v.heap.size u t (v.alloc (.cells #[u,.string (S t)] 35)):=⟨by simp,by go_simp,by go_simp,by go_simp,by go_simp⟩
theorem a2w (dv sv:Value) (l:P.Dic) (st:List Int) (t:Str) (w:World) (hu:EntR w dv l) (hs:IntR w sv st) (hm:Small l) (hE:Env w) :
 Cz 106 #[.agg #[dv],a0y sv t] w λe w'=>e=.returned (.bool (P.trans l (st,t)))/\Bl w w':=by
 have hb0:Bl w ((w.alloc (.cells #[dv] 26)).alloc (.cells #[sv,.string (S t)] 35)):=((Below.refl w.heap.size w).alloc lZ _).alloc sZ _;refine zm41 ?_;intro HU HST HB0 HE;refine zm95 ?_;intro HX;clear hb0;obtain⟨ad,cap,rfl,_,_⟩:=hu;obtain⟨sd,sc,rfl,_,_⟩:=hs;unfold a0y;go_enter func106,ntmps106;go_wp2_with fail;refine (a5f _ _ l st _ HU.o HST.o hm HE.o).mono ?_;rintro e w1 ⟨rfl,hb⟩;have HB1:=bt HB0 hb;have HST1:=qh (HST.o.below hb);have HX1:=qh (HX.o.below hb);have HP:Hq (P.trans l (st,t)=((P.scr l st).2&&((P.scr l st).1==t&&!st.contains 1024))):=⟨rfl⟩;clear hb;generalize P.scr l st=r at *;obtain⟨r1,r2⟩:=r;obtain⟨k0,k1,k2,_⟩:=HX1.o
 cases r2
 .go_wp2;go_ret;exact⟨by rw [HP.o];rfl,HB1.o⟩
 .by_cases h:r1=t
  .subst h
   go_wp2_with fail
   refine (has _ st 1024 _ HST1.o).mono ?_;rintro e w2 ⟨rfl,rfl⟩;obtain⟨q,hq⟩:∃q,st.contains 1024=q:=⟨_,rfl⟩;rw [hq]at HP⊢;clear hq;go_wp2;go_ret;exact⟨by rw [HP.o];simp,HB1.o⟩
  .exact zq144
namespace P
theorem d0n (l:List Int) (k:Int):(next l k).length<=l.length+1:=by
 unfold next
 split
 .rw [List.length_take];omega
 .rw [List.length_append];simp
end P
set_option maxHeartbeats 8000000
theorem a2j (h:OwnK B v u l) (hl:l.length<=2^45):IntR v u l:=by
 have h':=h
 rcases h.2 with⟨rfl,h0⟩|⟨g,cap,cur,rfl,h1,h2,h3,h4,h5⟩
 .have:l=[]:=by cases l with
   |nil=>rfl
   |cons=>simp at h0
  subst this;exact⟨none,0,rfl,⟨by simp,by simp⟩,λ_=>rfl,.inl rfl⟩
 .refine⟨some ⟨g,0,none⟩,cap,rfl,⟨hl,h3⟩,(λh=>by cases h),.inr ⟨g,0,rfl,?_,λj hj=>?_⟩⟩
  .exact (World.ownsRow.lt h' g rfl).2
  .rw [Nat.zero_add,World.ownsRow.cellAt h' j oZ];unfold ints;rw [List.getElem?_map,List.getElem?_eq_getElem hj];rfl
theorem IntR.cap {n:Nat} (h:IntR v (.slice a n c) l):l.length<=c:=by
 obtain⟨ad,cap,h1,h2,_⟩:=h;injection h1 with _ _ h3;subst h3;exact h2.2
theorem c5h {m:Nat} (h:OwnK B v (.slice a l.length c) l) (hl:l≠[]) (hm:m<=l.length):OwnK B v (.slice a m c) (l.take m):=by
 have hml:(l.take m).length=m:=by rw [List.length_take];omega
 rcases h.2 with⟨h1,h0⟩|⟨g,cap,cur,h0,h1,h2,h3,h4,h5,h6⟩
 .exact absurd (List.eq_nil_of_length_eq_zero h0) hl
 .injection h0 with h7 _ h8;subst h7 h8;refine⟨by simp [ints],.inr ⟨g,c,cur,by rw [hml],h1,h2,by omega,h4,h5,?_⟩⟩;rw [hml];have h9:(cur.toList.take (l.length*1)).take m=(ints l).take m:=by rw [h6]
  rw [List.take_take,Nat.min_eq_left oZ]at h9;rw [Nat.mul_one,h9];unfold ints;rw [List.map_take]
def EBx (b:Nat) (v:World):Prop:=b<v.heap.size/\v.cell? ⟨b,0,none⟩=some (.int .i64 0)/\v.cell? ⟨b,1,none⟩=some (.string (S []))/\v.frozen? ⟨b,0,none⟩=false/\v.frozen? ⟨b,1,none⟩=false
theorem EBx.below (h:EBx b v) (hb:Bl v v'):EBx b v':=by
 exact zq112
def PrBx (b:Nat) (sv:Value) (t:Str) (dv:Value) (v:World):Prop:=(b<v.heap.size/\v.cell? ⟨b,0,none⟩=some dv)/\TBx (b+1) sv t v/\TBx (b+1+1) (.slice none 0 0) [] v/\EBx (b+1+1+1) v
theorem PrBx.below {sv:Value} (h:PrBx b sv t dv v) (hb:Bl v v'):PrBx b sv t dv v':=
 ⟨⟨Nat.lt_of_lt_of_le h.1.1 hb.size,(hb.cell (p:=⟨b,0,none⟩) h.1.1).trans h.1.2⟩,h.2.1.below hb,h.2.2.1.below hb,h.2.2.2.below hb⟩
def a1d (e:P.Edit):Value:=.agg #[.int .i64 e.1,.string (S e.2)]
def b6j (r:(P.Tr×P.Edit)×Bool) (w:World) (e:Ending) (w':World):Prop:=
 ∃u,e=.returned (.tuple #[a0y u r.1.1.2,a1d r.1.2,.bool r.2])/\OwnK w.heap.size w' u r.1.1.1/\Bl w w'
theorem a6q (dv sv:Value) (l:P.Dic) (st:List Int) (t:Str) (k:Int) (w:World) (hu:EntR w dv l) (hs:IntR w sv st) (hm:Small l) (hE:Env w) (hst:st.length<=2^20) (ht:t.length<=2^30) :
 Cz 268 #[.agg #[dv],a0y sv t,.int .i64 k] w (b6j (P.b4u l (st,t) k) w):=by
 obtain⟨i0,hi,hz0,hz1,hz2⟩:=info_parts a2i
 obtain⟨W0,hW0⟩:∃v,((((w.alloc (.cells #[dv] 26)).alloc (.cells #[sv,.string (S t)] 35)).alloc (.cells #[.slice none 0 0,.string (S [])] 35)).alloc (.cells #[.int .i64 0,.string (S [])] 55))=v:=⟨_,rfl⟩
 have hb0:Bl w W0:=by rw [<-hW0];exact ((((Below.refl w.heap.size w).alloc lZ _).alloc sZ _).alloc (by simp;omega) _).alloc (by simp;omega) _
 have hz0':W0.heap.size=w.heap.size+4:=by rw [<-hW0];simp
 have hx0:PrBx w.heap.size sv t dv W0:=by
  exact zq55
 refine zm41 ?_;intro HU HST HB0 HE;have HX:=qh hx0;have HZ0:=qh hz0';clear hb0 hz0';obtain⟨ad,cap,rfl,_,_⟩:=hu;obtain⟨sd,sc,rfl,_,_⟩:=hs;unfold a0y;go_enter func268,ntmps268;go_upto_region 1 with (fail);try rw [hW0]
 clear hW0;obtain⟨k0,⟨k1,k2,k3,_⟩,_,_⟩:=hx0;go_wp2_with fail;refine (a9y _ st _ HST.o oZ).mono ?_;rintro e w1 ⟨u,rfl,ho,hb⟩;have HB1:=qh hb;have HX1:=qh (HX.o.below hb);have HOW:=qh ho;obtain⟨ua,uc,rfl⟩:=a0h ho;have hz1':=hb.size;clear k0 k1 k2 k3 ho hb;have HOW2:=qh (HOW.o.alloc (.cells #[.int .i64 k] 3));go_wp2_with (at_builtin;refine wpList_append_own _ rfl _ _ 33 rfl W0.heap.size 3 i0 (.int .i64 0) 1 8 underlying33 hi hz0 hz1 hz2 rfl dZ (.slice ua st.length uc) st.length (ints st) rfl HOW2.o ⟨w1.heap.size,0,none⟩ 1 1 [.int .i64 k] rfl rfl ?_ ?_ ?_ ?_ ?_ ?_);all_goals first|exact⟨rfl,rfl⟩|(intro z hz;simp only [List.mem_cons,List.not_mem_nil,or_false]at hz;subst hz;rfl)|(unfold maxLen;omega)|omega|(simp;omega)|(intro i z hz;rcases i with _|i;(injection hz with hz;subst hz;rw [add0];go_simp);cases hz)|skip
 intro u4 w4 hown hgr _;have R:=qh (b6n HOW.o HB1.o 3 hown hgr);have HX4:=qh (HX.o.below R.o.2);have hz4:=R.o.2.size;clear hown hgr;obtain⟨va,vc,rfl⟩:=a0h R.o.1;have HE4:=qh (HE.o.below R.o.2 HE.o.size);have HU4:=qh (HU.o.below R.o.2);go_upto_if 19 with fail;go_cut [9] (λu wx=>(∃a c,u=.slice a (P.next st k).length c)/\OwnK W0.heap.size w4 u (P.next st k)/\w4=wx)
 case first=>
  by_cases hk:k=1024
  .subst hk;refine zm47 ?_;intro HN HL i1;obtain⟨m,hm⟩:∃m,st.length-1=m:=⟨_,rfl⟩;rw [hm]at HN HL;have i2:max (0:Int) ((st.length:Int)+1-2)=(m:Int):=by omega
   have hvc:=(a2j R.o.1 (by rw [List.length_append];simp;omega)).cap;rw [List.length_append]at hvc;simp only [List.length_cons,List.length_nil]at hvc;have i3:m<=vc:=by omega
   have i4:(m:Int)<=(vc:Int):=by omega
   have HR:=qh (show OwnK W0.heap.size w4 (.slice va m vc) (P.next st 1024) by rw [HN.o];exact c5h R.o.1 sZ (by rw [List.length_append];omega));go_wp2;go_meet;exact⟨⟨va,vc,by rw [HL.o]⟩,HR.o,rfl⟩
  .have i1:(k==1024)=false:=by simpa using hk
   have HN:=qh (show st++[k]=P.next st k by unfold P.next;rw [if_neg hk]);have HR:=qh (show OwnK W0.heap.size w4 (.slice va (st++[k]).length vc) (P.next st k) by rw [<-HN.o];exact R.o.1);rw [HN.o]at HR⊢;go_wp2;go_meet;exact⟨⟨_,_,rfl⟩,HR.o,rfl⟩
 case rest=>
  obtain⟨⟨a,c,rfl⟩,ho,rfl⟩:=hcut;refine zm70 ?_;intro HN hnl hsl;generalize P.next st k=nx at *;have HI:=qh (a2j ho oZ);have HO4:=qh ho;obtain⟨⟨_,k0⟩,_,_,_⟩:=HX4.o;clear ho HOW HOW2 HB1 HX1 HST hz1';go_wp2_with fail;refine (a5f _ _ l nx _ HU4.o HI.o hm HE4.o).mono ?_;rintro e w5 ⟨rfl,hb5⟩;generalize P.scr l nx=r at *;obtain⟨r1,r2⟩:=r;simp only at hsl;have HX5:=qh (HX4.o.below hb5);have HB5:=qh (R.o.2.trans (hb5.mono hz4));have HO5:=qh (a0i HO4.o hb5 lZ);have hz5:=hb5.size;clear hb5 k0
  cases r2
  .obtain⟨_,⟨_,k1,k2,_⟩,⟨_,k3,k4,k7,k8⟩,⟨_,k5,k6,k9,k10⟩⟩:=HX5.o;go_wp2;refine bodyPost_ret (v:=.tuple #[a0y (.slice none 0 0) [],a1d (0,[]),.bool false]) (by simp [a0y,a1d,k3,k4,k5,k6,results,results268,go_sem]) rfl ⟨.slice none 0 0,by rw [HN.o];rfl,by rw [HN.o];exact World.ownsRow_nil _ _ _ _,?_⟩;exact (((((HB0.o.trans (HB5.o.mono HB0.o.size)).setCell (by simp<;>omega) _).setCell (by simp<;>omega) _).setCell (by simp<;>omega) _).setCell (by simp<;>omega) _)
  .obtain⟨_,⟨_,k1,k2,_⟩,_,_⟩:=HX5.o
   go_wp2_with fail
   refine (a9b t r1 _ ht oZ).mono ?_;rintro e w6 ⟨rfl,hb6⟩;have HX6:=qh (HX5.o.below hb6);have HB6:=qh (HB5.o.trans (hb6.mono (Nat.le_trans hz4 hz5)));have HO6:=qh (a0i HO5.o hb6 lZ);clear hb6 k1 k2;obtain⟨_,_,⟨_,k3,k4,k7,k8⟩,⟨_,k5,k6,k9,k10⟩⟩:=HX6.o;have hzz:=HZ0.o;go_wp2;refine bodyPost_ret (v:=.tuple #[a0y (.slice a nx.length c) r1,a1d (P.least t r1),.bool true]) (by simp [a0y,a1d,k3,k4,k5,k6,results,results268,go_sem]) rfl ⟨.slice a nx.length c,by rw [HN.o];rfl,?_,?_⟩
   .rw [HN.o];exact zq123
   .exact (((((HB0.o.trans (HB6.o.mono HB0.o.size)).setCell (by simp<;>omega) _).setCell (by simp<;>omega) _).setCell (by simp<;>omega) _).setCell (by simp<;>omega) _)
theorem b0f (dv sv:Value) (l:P.Dic) (st:List Int) (t:Str) (k:Int) (w:World) (hu:EntR w dv l) (hs:IntR w sv st) (hm:Small l) (hE:Env w) (hst:st.length<=2^20) (ht:t.length<=2^30) :
 Cz 207 #[.agg #[dv],a0y sv t,.int .i64 k] w (b6j (P.a6q l (st,t) k) w):=by
 obtain⟨W0,hW0⟩:∃v,((((w.alloc (.cells #[dv] 26)).alloc (.cells #[sv,.string (S t)] 35)).alloc (.cells #[.slice none 0 0,.string (S [])] 35)).alloc (.cells #[.int .i64 0,.string (S [])] 55))=v:=⟨_,rfl⟩
 have hb0:Bl w W0:=by rw [<-hW0];exact ((((Below.refl w.heap.size w).alloc lZ _).alloc sZ _).alloc (by simp;omega) _).alloc (by simp;omega) _
 have hz0':W0.heap.size=w.heap.size+4:=by rw [<-hW0];simp
 have hx0:PrBx w.heap.size sv t dv W0:=by
  exact zq55
 refine zm41 ?_;intro HU HST HB0 HE;have HX:=qh hx0;have HZ0:=qh hz0';clear hb0 hz0';obtain⟨ad,cap,rfl,_,_⟩:=hu;obtain⟨sd,sc,rfl,_,_⟩:=hs;unfold a0y;go_enter func207,ntmps207;go_upto_region 1 with (fail);try rw [hW0]
 clear hW0;obtain⟨⟨_,k0⟩,⟨k1,k2,k3,_⟩,_,_⟩:=hx0;go_wp2_with fail;refine (a2w _ _ l st t _ HU.o HST.o hm HE.o).mono ?_;rintro e w1 ⟨rfl,hb⟩;have HB1:=qh hb;have HX1:=qh (HX.o.below hb);have HST1:=qh (HST.o.below hb);have HU1:=qh (HU.o.below hb);have HE1:=qh (HE.o.below hb HE.o.size);clear hb k0 k1 k2 k3;obtain⟨⟨_,k0⟩,⟨_,k1,k2,_,_⟩,⟨_,k3,k4,k7,k8⟩,⟨_,k5,k6,k9,k10⟩⟩:=HX1.o;have HP:Hq (P.a6q l (st,t) k=if P.trans l (st,t)&&P.a0q k then P.b4u l (st,t) k else ((P.tr0,(0,[])),false)):=⟨rfl⟩;generalize P.trans l (st,t)=q at *
 cases q
 .exact zq189
 .go_wp2_with fail
  refine (a5e _ _).mono ?_;rintro e w2 ⟨rfl,rfl⟩;generalize P.a0q k=q at *
  cases q
  .exact zq189
  .go_wp2_with fail
   refine (a6q _ _ l st t k _ HU1.o HST1.o hm HE1.o hst ht).mono ?_;rintro e w3 ⟨u,rfl,ho,hb⟩;rw [Bool.and_self,if_pos rfl]at HP;have HX3:=qh (HX1.o.below hb);have HO:=qh ho;have HB3:=qh (HB0.o.trans ((HB1.o.trans (hb.mono HB1.o.size)).mono HB0.o.size));have hzz:w.heap.size+4<=w1.heap.size:=by have h1:=HB1.o.size;have h2:=HZ0.o;omega
   generalize P.b4u l (st,t) k=r at *;obtain⟨⟨⟨nx,r1⟩,ed⟩,ok⟩:=r;simp only at ho HO⊢;obtain⟨va,vc,rfl⟩:=a0h ho;clear ho hb k0 k1 k2 k3 k4 k5 k6 k7 k8 k9 k10;obtain⟨_,_,⟨_,k3,k4,k7,k8⟩,⟨_,k5,k6,k9,k10⟩⟩:=HX3.o;unfold a0y a1d;go_wp2;refine bodyPost_ret (v:=.tuple #[a0y (.slice va nx.length vc) r1,a1d ed,.bool ok]) (by simp [a0y,a1d,k3,k4,k5,k6,results,results207,go_sem]) rfl ⟨.slice va nx.length vc,by rw [HP.o],?_,?_⟩
   .rw [HP.o];exact a2g (ownsRow_setCell_below (ownsRow_setCell_below (ownsRow_setCell_below (ownsRow_setCell_below HO.o (by simp<;>omega) _) (by simp<;>omega) _) (by simp<;>omega) _) (by simp<;>omega) _) oZ
   .exact ((((HB3.o.setCell (by simp<;>omega) _).setCell (by simp<;>omega) _).setCell (by simp<;>omega) _).setCell (by simp<;>omega) _)
def BetO (lo hi:Nat) (u:Value):Blk:=λb=>(lo<=b/\b<hi)/\u.ownBlock=some b
theorem a7b (h:OwnK B v u l) (hl:l.length<=2^30):Ints v (BetO B v.heap.size u) u l:=by
 rcases id h.2 with⟨rfl,h0⟩|⟨g,cap,cur,hv,hg,hh,hnc,_⟩
 .rw [List.eq_nil_of_length_eq_zero h0];exact RowO.nil _ _
 .have hob:u.ownBlock=some g:=by rw [hv];rfl
  have hlt:=(World.ownsRow.lt h g hob).2;have hBl:BetO B v.heap.size u g:=⟨⟨hg,hlt⟩,hob⟩;subst hv;refine b5x (λj hj=>?_) hBl (λb hb=>hb.1.2) hl hnc;exact zq129
theorem c6a (dv x:Value) (l:P.Dic) (o:List Int) (t:Str) (w:World) (hu:EntR w dv l) (ho:IntR w x o) (hs:Small l) (h1:o.length<=2^20) (h2:t.length<=2^30) :
 Cz 295 #[.agg #[dv],.agg #[x,.string (S t)]] w (d7b (o,t) l w):=by
 refine zm58 ?_;intro hb0 HU HO;have HB0:=qh hb0;clear hb0;have HN:=qh (IBox.new dv x t w);have HSM:=qh hs;clear hs;have HL1:=qh h1;have HL2:=qh h2;clear h1 h2;obtain⟨ad,cap,rfl,_,_⟩:=hu;obtain⟨od,oc,rfl,_,_⟩:=ho;go_enter func295,ntmps295;go_wp2_with fail;refine (b7x _ l _ HU.o HSM.o.texts).mono ?_;rintro e w1 ⟨rfl,hb⟩;have HU1:=qh (HU.o.below hb);have HO1:=qh (HO.o.below hb);have HN1:=qh (HN.o.below hb);refine zm59 ?_;intro HB1;clear hb HU HB0 HN HO
 cases hd:P.dic l
 .have HD:=qh (show P.a4e (o,t) l=false by unfold P.a4e;rw [hd];rfl);clear hd;obtain⟨_,_,_,b0,f0,_⟩:=HN1.o;go_wp2;refine bodyPost_ret (v:=.tuple #[.agg #[.slice none 0 0],.bool false]) (by simp [results,results295,go_sem,b0]) rfl ⟨_,by rw [HD.o],?_,?_⟩
  .rw [HD.o];exact RowO.nil _ _
  .exact HB1.o.setCell (by simp;omega) _
 .have HDC:=qh hd;clear hd;obtain⟨a0,a1,a2,_⟩:=HN1.o
  go_wp2_with fail
  refine (b6a _ o t _ HO1.o HL2.o).mono ?_;rintro e w2 ⟨rfl,hb⟩;have HU2:=qh (HU1.o.below hb);have HO2:=qh (HO1.o.below hb);have HN2:=qh (HN1.o.below hb);have HB2:=bt HB1 hb;clear hb HU1 HB1 HN1 HO1 a0 a1 a2
  cases he:P.entry (o,t)
  .have HD:=qh (show P.a4e (o,t) l=false by unfold P.a4e;rw [he,Bool.false_and,Bool.and_false]);clear he;obtain⟨_,_,_,b0,f0,_⟩:=HN2.o;go_wp2;refine bodyPost_ret (v:=.tuple #[.agg #[.slice none 0 0],.bool false]) (by simp [results,results295,go_sem,b0]) rfl ⟨_,by rw [HD.o],?_,?_⟩
   .rw [HD.o];exact RowO.nil _ _
   .exact HB2.o.setCell (by simp;omega) _
  .have HEN:=qh he;clear he;obtain⟨a0,a1,a2,_⟩:=HN2.o
   go_wp2_with fail
   refine (l6Put _ _ l o t _ HU2.o HO2.o HSM.o.len HSM.o.outs HL1.o).mono ?_;rintro e w4 ⟨u4,rfl,hI,hb⟩;have HZ2:=qh HN2.o.2.2.2.2.2;have HN5:=qh (HN2.o.below hb);have HB6:=bt HB2 hb;have hba:=(Below.refl w4.heap.size w4).alloc lZ (.cells #[u4] 26);have HI:=qh hI;obtain⟨u4d,u4c,rfl,hlp,_⟩:=hI;have HZ4:Hq (w2.heap.size<=w4.heap.size):=⟨hb.size⟩;clear hb HN2 HB2 a0 a1 a2;have HI2:Hq (Ents _ _ _ (P.putF (o,t) false l)):=⟨HI.o.below a0f hba⟩;have HN6:=qh (HN5.o.below hba);have HB7:=bt HB6 hba;clear hba HN5 HB6;obtain⟨_,_,_,b0,f0,_⟩:=HN6.o
   by_cases hlen:(40:Int)<((P.putF (o,t) false l).length:Int)
   .have HD:=qh (show P.a4e (o,t) l=false by unfold P.a4e;rw [HDC.o,HEN.o,decide_eq_false oZ];rfl);go_wp2;refine bodyPost_ret (v:=.tuple #[.agg #[.slice none 0 0],.bool false]) (by simp [results,results295,go_sem,b0]) rfl ⟨_,by rw [HD.o],?_,?_⟩
    .rw [HD.o];exact RowO.nil _ _
    .exact HB7.o.setCell (by simp;omega) _
   .have HD:=qh (show P.a4e (o,t) l=true by unfold P.a4e;rw [HDC.o,HEN.o,decide_eq_true oZ];rfl);go_wp2;refine bodyPost_ret (v:=.tuple #[.agg #[.slice u4d (P.putF (o,t) false l).length u4c],.bool true]) (by simp [results,results295,go_sem,b0]) rfl ⟨_,by rw [HD.o],?_,?_⟩
    .rw [HD.o]
     show Ents _ _ _ (P.putF (o,t) false l)
     refine b3p (w.heap.size+2) HI2.o λb hb=>?_;have h1:=hb.1;have h2:=hb.2;have h3:=HZ2.o;simp;omega
    .exact HB7.o.setCell (by simp;omega) _
def a1z (b:Nat) (x:Value) (t:Str) (v:World):Prop:=v.cell? ⟨b,0,none⟩=some x/\v.cell? ⟨b,1,none⟩=some (.string (S t))/\b<v.heap.size
theorem a1z.a0b (h:a1z b x t v) (hc:Chg X v v') (hX:¬X b):a1z b x t v':=
 ⟨(hc.cell (p:=⟨b,0,none⟩) h.2.2 hX).trans h.1,(hc.cell (p:=⟨b,1,none⟩) h.2.2 hX).trans h.2.1,Nat.lt_of_lt_of_le h.2.2 hc.size⟩
theorem a1z.below (h:a1z b x t v) (hb:Bl v v'):a1z b x t v':=h.a0b (Below.chg hb λ_=>False) λh=>h
theorem a1z.new (x:Value) (t:Str) (T:TypeId) (v:World):a1z v.heap.size x t (v.alloc (.cells #[x,.string (S t)] T)):=⟨by go_simp,by go_simp,by simp⟩
theorem a0m {P Q:Prop} (h:P->Q) (p:P):Q:=h p
theorem RowO.to {α:Type} {E:ElT α} {wd:Nat} (hE:ElOk E) {lo hi lo' hi':Nat} {l:List α} (h:RowO wd E v (BetO lo hi x) u l) (hb:Bl v v') (h1:lo'<=lo) (h2:hi<=hi') (h3:hi'<=v'.heap.size):RowO wd E v' (BetO lo' hi' x) u l:=
 (h.below hE hb).wide (λ_ hb=>⟨⟨Nat.le_trans h1 hb.1.1,Nat.lt_of_lt_of_le hb.1.2 h2⟩,hb.2⟩) (λ_ hb=>Nat.lt_of_lt_of_le hb.1.2 h3)
theorem a1z.set2 {y:Value} {r:Str} (h0:v.cell? ⟨b,0,none⟩=some x) (h1:v.cell? ⟨b,1,none⟩=some (.string (S t))) (hz:b<v.heap.size):a1z b y r ((v.setCell ⟨b,0,none⟩ y).setCell ⟨b,1,none⟩ (.string (S r))):=by
 refine⟨?_,?_,by simpa [World.setCell] using hz⟩
 .go_simp
 .go_simp
theorem EBx.new (v:World):EBx v.heap.size (v.alloc (.cells #[.int .i64 0,.string (S [])] 55)):=⟨by simp,by go_simp,by go_simp,by go_simp,by go_simp⟩
theorem TBx.a0b (h:TBx b u t v) (hc:Chg X v v') (hX:¬X b):TBx b u t v':=by
 exact zq111
theorem EBx.a0b (h:EBx b v) (hc:Chg X v v') (hX:¬X b):EBx b v':=by
 exact zq111
end Go.Proofs.YtggfdnopminemaaGreatDoor
namespace Go.Proofs.YtggfdnopminemaaGreatDoor.P
open Go.Proofs.Tryz
theorem e4a {d:Dic} (h:dic d=true):scr d []=([],true):=by
 unfold scr;rw [h];rfl
end Go.Proofs.YtggfdnopminemaaGreatDoor.P
namespace Go.Proofs.YtggfdnopminemaaGreatDoor
open Go.Proofs.Tryz
variable {a b:Nat} {t:Str} {dv sv:Go.Value} {v v':Go.World}
namespace P
theorem a1m {d:Dic} {t:Tr} (h:trans d t=true):t.1.length<=60/\t.2.length<=2000:=by
 obtain⟨h1,_,_⟩:=a2c h;refine⟨?_,a4k (a2l h)⟩
 have h2:a3n t.1=true:=by
  unfold scr at h1
  cases hq:a3n t.1
  .rw [hq]at h1;simp at h1
  .rfl
 exact a4w h2
end P
open Go Go.RowKit
set_option maxHeartbeats 8000000
set_option maxRecDepth 100000
namespace P
def a3j (d:Dic) (t:Tr) (e:Ent):((Dic×Tr)×Edit)×Bool:=if trans d t&&(a4e e d&&(scr (putF e false d) t.1).2) then (((putF e false d,(t.1,(scr (putF e false d) t.1).1)),least t.2 (scr (putF e false d) t.1).1),true) else ((([],tr0),(0,[])),false)
theorem b1v {d:Dic} {t:Tr} (h:trans d t=true):dic d=true:=by
 exact zq135
theorem c8f {e:Ent} {l:Dic} (h:a4e e l=true):dic (putF e false l)=true:=by
 unfold a4e at h;simp only [Bool.and_eq_true]at h;rw [d7e h.1 h.2.1];exact h.2.2
theorem b3l {d:Dic} (h:dic d=true):∀e∈d,e.2.length<=60:=λe he=>by
 have h1:=(a4d h).2.1 e he;unfold entry at h1;simp only [Bool.and_eq_true]at h1;exact b1q h1.2
theorem b2k {d:Dic} {t:Tr} {e:Ent} (h:(trans d t&&(a4e e d&&(scr (putF e false d) t.1).2))=false):a3j d t e=((([],tr0),(0,[])),false):=by
 unfold a3j;rw [h];rfl
theorem d0f {d:Dic} {t:Tr} {e:Ent} (h:trans d t=true) (h2:a4e e d=true) (h3:(scr (putF e false d) t.1).2=true):a3j d t e=(((putF e false d,(t.1,(scr (putF e false d) t.1).1)),least t.2 (scr (putF e false d) t.1).1),true):=by
 unfold a3j;rw [h,h2,h3];rfl
end P
theorem a8v {l:P.Dic} (h:P.dic l=true):Small l:=d3v h λe he=>Nat.le_trans (P.b3l h e he) dZ
def c2i (r:((P.Dic×P.Tr)×P.Edit)×Bool) (w:World) (e:Ending) (w':World):Prop:=
 ∃u us m,e=.returned (.tuple #[.agg #[u],a0y us r.1.1.2.2,a1d r.1.2,.bool r.2])/\Ents w' (Bet w.heap.size m) u r.1.1.1/\OwnK m w' us r.1.1.2.1/\w.heap.size<=m/\m<=w'.heap.size/\Bl w w'
def RxBx (b:Nat) (dv sv x:Value) (t et:Str) (v:World):Prop:=
 v.cell? ⟨b,0,none⟩=some dv/\TBx (b+1) sv t v/\a1z (b+1+1) x et v/\NBx (b+1+1+1) v/\TBx (b+1+1+1+1) (.slice none 0 0) [] v/\EBx (b+1+1+1+1+1) v
theorem RxBx.below {x:Value} {et:Str} (h:RxBx b dv sv x t et v) (hb:Bl v v'):RxBx b dv sv x t et v':=
 ⟨(hb.cell (p:=⟨b,0,none⟩) (by have:=h.2.1.1;show b<_;omega)).trans h.1,h.2.1.below hb,h.2.2.1.below hb,h.2.2.2.1.below hb,h.2.2.2.2.1.below hb,h.2.2.2.2.2.below hb⟩
def RdR (a b:Nat) (dv sv:Value) (t:Str) (v:World):Prop:=v.cell? ⟨b,0,none⟩=some dv/\v.cell? ⟨a+1,0,none⟩=some sv/\v.cell? ⟨a+1,1,none⟩=some (.string (S t))/\(b<v.heap.size/\a+1<v.heap.size)
theorem RdR.a0b {X:Blk} (h:RdR a b dv sv t v) (hc:Chg X v v') (h0:¬X b) (h1:¬X (a+1)):RdR a b dv sv t v':=
 ⟨(hc.cell (p:=⟨b,0,none⟩) h.2.2.2.1 h0).trans h.1,(hc.cell (p:=⟨a+1,0,none⟩) h.2.2.2.2 h1).trans h.2.1,(hc.cell (p:=⟨a+1,1,none⟩) h.2.2.2.2 h1).trans h.2.2.1,Nat.lt_of_lt_of_le h.2.2.2.1 hc.size,Nat.lt_of_lt_of_le h.2.2.2.2 hc.size⟩
theorem RdR.below (h:RdR a b dv sv t v) (hb:Bl v v'):RdR a b dv sv t v':=h.a0b (Below.chg hb λ_=>False) (λh=>h) (λh=>h)
theorem a2b (dv sv x:Value) (l:P.Dic) (st:List Int) (t:Str) (o:List Int) (et:Str) (w:World) (hu:EntR w dv l) (hs:IntR w sv st) (ho:IntR w x o) (hm:Small l) (h1:o.length<=2^20) (h2:et.length<=2^30) (hE:Env w) :
 Cz 212 #[.agg #[dv],a0y sv t,.agg #[x,.string (S et)]] w (c2i (P.a3j l (st,t) (o,et)) w):=by
 have HU:=qh hu;have HST:=qh hs;have HO:=qh ho;have HE:=qh hE;have H1:=qh h1;have H2:=qh h2;clear h1 h2;obtain⟨ad,cap,rfl,_,_⟩:=hu;obtain⟨sd,sc,rfl,hsl,_⟩:=hs;obtain⟨oa,oc,rfl,_,_⟩:=ho;refine zm2 ?_;intro HB0 HX0 HZ0;go_enter func212,ntmps212;go_upto_region 1 with (fail);generalize ((((((w.alloc (.cells #[.slice ad l.length cap] 26)).alloc (.cells #[.slice sd st.length sc,.string (S t)] 35)).alloc (.cells #[.slice oa o.length oc,.string (S et)] 119)).alloc (.cells #[.slice none 0 0] 26)).alloc (.cells #[.slice none 0 0,.string (S [])] 35)).alloc (.cells #[.int .i64 0,.string (S [])] 55))=W0 at *;obtain⟨k0,⟨_,k1,k2,_⟩,_⟩:=HX0.o;go_wp2_with fail;refine (a2w _ _ l st t _ (HU.o.below HB0.o) (HST.o.below HB0.o) hm (HE.o.below HB0.o HE.o.size)).mono ?_;rintro e w1 ⟨rfl,hb⟩;have HB1:=bt HB0 hb;have HX1:=qh (HX0.o.below hb);have hz1:w.heap.size+6<=w1.heap.size:=by have h1:=hb.size;have h2:=HZ0.o;omega
 clear hb k0 k1 k2 HB0 HX0 HZ0
 cases hd:P.trans l (st,t)
 .have HP:=qh (P.b2k (d:=l) (t:=(st,t)) (e:=(o,et)) (by rw [hd];rfl));clear hd;obtain⟨_,_,_,⟨k3,k4,_⟩,⟨_,k5,k6,k7,k8⟩,⟨_,k9,k10,k11,k12⟩⟩:=HX1.o;go_wp2;refine bodyPost_ret (v:=.tuple #[.agg #[.slice none 0 0],a0y (.slice none 0 0) [],a1d (0,[]),.bool false]) (by simp [a0y,a1d,k3,k5,k6,k9,k10,results,results212,go_sem]) rfl ⟨.slice none 0 0,.slice none 0 0,w.heap.size,by rw [HP.o];rfl,by rw [HP.o];exact RowO.nil _ _,by rw [HP.o];exact World.ownsRow_nil _ _ _ _,Nat.le_refl _,?_,?_⟩
  .have h9:=HB1.o.size;simp only [World.setCell,Array.size_modify];omega
  .exact zq142
 .have HD:=qh hd;obtain⟨hl60,hl2⟩:=P.a1m hd;simp only at hl60 hl2;clear hd;obtain⟨k0,_,⟨k1,k2,_⟩,_⟩:=HX1.o
  go_wp2_with fail
  refine (c7w _ _ l o et _ (HU.o.below HB1.o) (HO.o.below HB1.o) hm H1.o H2.o (HE.o.below HB1.o HE.o.size)).mono ?_;rintro e w2 ⟨u,rfl,hI,hb⟩;have HB2:=bt HB1 hb;have HX2:=qh (HX1.o.below hb);have hz2:w1.heap.size<=w2.heap.size:=hb.size;have HI:=qh hI;obtain⟨ua,uc,rfl,_,_⟩:=hI;have HNO:=qh (P.b2k (d:=l) (t:=(st,t)) (e:=(o,et)));have HYES:=qh (P.d0f (d:=l) (t:=(st,t)) (e:=(o,et)) HD.o);have HID:=qh (λh:P.a4e (o,et) l=true=>a8v (P.c8f h));clear hb k0 k1 k2 HB1 HX1;obtain⟨ok,hok⟩:∃ok,P.a4e (o,et) l=ok:=⟨_,rfl⟩;rw [hok]at HI HNO HYES HID⊢;have HOK:=qh hok;clear hok
  have HBS:=qh (show Small (P.kept ok (P.putF (o,et) false l)) by
   cases ok
   .exact⟨Nat.zero_le _,λe he=>(by cases he),λe he=>(by cases he)⟩
   .exact HID.o rfl)
  have HKE:Hq (ok=true->P.kept ok (P.putF (o,et) false l)=P.putF (o,et) false l):=⟨λh=>by rw [h];rfl⟩;generalize P.kept ok (P.putF (o,et) false l)=bk at *;refine zm27 ?_;intro HDB hba HB3 HX3 HI3;have hz3:w2.heap.size<(w2.alloc (.cells #[.slice ua bk.length uc] 26)).heap.size:=by simp
  clear hba HB2 HX2 HI;go_upto_region 4 with fail;generalize w2.alloc (.cells #[.slice ua bk.length uc] 26)=w3 at *;obtain⟨_,⟨_,k1,k2,_⟩,_⟩:=HX3.o;have k0:=HDB.o.1;go_wp2_with fail;refine (a5f _ _ bk st _ (Ents.read HI3.o) (HST.o.below HB3.o) HBS.o (HE.o.below HB3.o HE.o.size)).mono ?_;rintro e w4 ⟨rfl,hb⟩;refine zm43 ?_;intro HB4 HX4 HI4 hz4 HDB;clear hb k0 k1 k2 HB3 HX3 HI3;have hsl3:=P.b7m bk st;obtain⟨sx,hsx⟩:∃sx,P.scr bk st=sx:=⟨_,rfl⟩;have HSX:=qh hsx;rw [hsx]at hsl3⊢;clear hsx;obtain⟨s1,fi⟩:=sx;simp only at hsl3
  cases ok
  .have HP:=qh (HNO.o (by rw [HD.o];rfl));exact zq36
  .have hbk:=HKE.o rfl;subst hbk
   cases fi
   .have HP:=qh (HNO.o (by rw [HD.o,HSX.o];rfl));exact zq36
   .have HFI:=qh (show (P.scr (P.putF (o,et) false l) st).2=true by rw [HSX.o]);have HSC:=qh HSX.o;generalize P.putF (o,et) false l=bk at *;obtain⟨en,ee,hle⟩:∃en ee,P.least t s1=(en,ee):=⟨_,_,rfl⟩;refine zn19 ?_;intro HLE HP HRD HXD HBD HID4 hzd;clear hle HX4 HB4 HI4 HDB;go_upto_region 7 with fail;refine wp_region_held_drew (S:=RdR w.heap.size w2.heap.size (.slice ua bk.length uc) (.slice sd st.length sc) t) kZ HRD.o (λhS0=>?_);generalize w4.drew=v0 at *;refine zm34 ?_;refine tk0 4 hS0 ?_;refine tk0 6 hS0 ?_;refine tk0 7 hS0 ?_;refine tk0 8 hS0 ?_;refine trd 3 λK hK=>?_;go_simp;refine (a9y _ st _ (HST.o.below HBD.o) oZ).mono ?_;rintro e v1 ⟨nv,rfl,ho,hb⟩;obtain⟨va,vc,rfl⟩:=a0h ho;have HX5:=qh (HXD.o.below hb);have HB5:=bt HBD hb;have HI5:=qh (HID4.o.below a0f hb);have HOW:=qh ho;have hz5:v0.heap.size<=v1.heap.size:=hb.size;refine zm71 ?_;intro hS1;clear hK K hS0 ho hb HXD HBD HID4;refine zm0 ?_;refine tk0 5 hS1 ?_;refine trd 9 λK hK=>?_;go_simp;refine (a9b t s1 _ oZ oZ).mono ?_;rintro e v2 ⟨rfl,hb⟩;have HX6:=qh (HX5.o.below hb);have HB6:=bt HB5 hb;have HI6:=qh (HI5.o.below a0f hb);have HOW6:=qh (a0i HOW.o hb lZ);have hz6:v1.heap.size<=v2.heap.size:=hb.size;rw [HLE.o];refine hK.out _ _ (hS1.below hb) (λhS2=>?_);clear hK K hS1 hb HX5 HB5 HI5 HOW;refine zm0 ?_;obtain⟨_,_,_,⟨k3,k4,_⟩,⟨_,k5,k6,k7,k8⟩,⟨_,k9,k10,k11,k12⟩⟩:=HX6.o;refine trd 10 λK hK=>?_;go_simp;refine zm28 ?_;intro hcy0;have d00:(v2.setCell ⟨w.heap.size+1+1+1,0,none⟩ (.slice ua bk.length uc)).cell? ⟨w.heap.size+1+1+1,0,none⟩=some (.slice ua bk.length uc):=by go_simp
    have k5':(v2.setCell ⟨w.heap.size+1+1+1,0,none⟩ (.slice ua bk.length uc)).cell? ⟨w.heap.size+1+1+1+1,0,none⟩=some (.slice none 0 0):=by go_simp
    have k6':(v2.setCell ⟨w.heap.size+1+1+1,0,none⟩ (.slice ua bk.length uc)).cell? ⟨w.heap.size+1+1+1+1,1,none⟩=some (.string (S [])):=by go_simp
    have k9':(v2.setCell ⟨w.heap.size+1+1+1,0,none⟩ (.slice ua bk.length uc)).cell? ⟨w.heap.size+1+1+1+1+1,0,none⟩=some (.int .i64 0):=by go_simp
    have k10':(v2.setCell ⟨w.heap.size+1+1+1,0,none⟩ (.slice ua bk.length uc)).cell? ⟨w.heap.size+1+1+1+1+1,1,none⟩=some (.string (S [])):=by go_simp
    have k7':(v2.setCell ⟨w.heap.size+1+1+1,0,none⟩ (.slice ua bk.length uc)).frozen? ⟨w.heap.size+1+1+1+1,0,none⟩=false:=by go_simp
    have k8':(v2.setCell ⟨w.heap.size+1+1+1,0,none⟩ (.slice ua bk.length uc)).frozen? ⟨w.heap.size+1+1+1+1,1,none⟩=false:=by go_simp
    have k11':(v2.setCell ⟨w.heap.size+1+1+1,0,none⟩ (.slice ua bk.length uc)).frozen? ⟨w.heap.size+1+1+1+1+1,0,none⟩=false:=by go_simp
    have k12':(v2.setCell ⟨w.heap.size+1+1+1,0,none⟩ (.slice ua bk.length uc)).frozen? ⟨w.heap.size+1+1+1+1+1,1,none⟩=false:=by go_simp
    obtain⟨y0,hy0⟩:∃y,(v2.setCell ⟨w.heap.size+1+1+1,0,none⟩ (.slice ua bk.length uc))=y:=⟨_,rfl⟩;rw [hy0]at hcy0 d00 k5' k6' k9' k10' k7' k8' k11' k12';have hRy0:=hS2.a0b hcy0 oZ oZ;have hall0:Chg (λk=>w.heap.size+3<=k/\k<w.heap.size+6) v2 y0:=hcy0;refine hK.out _ _ (by rw [hy0];exact hRy0) (λhS3=>?_);clear hK K;rw [hy0]at hS3⊢;refine zm0 ?_;clear k3 k4 k5 k6 k7 k8 k9 k10 k11 k12 hy0 hS2 hRy0;have k5:=k5';clear k5';have k6:=k6';clear k6';have k9:=k9';clear k9';have k10:=k10';clear k10';have k7:=k7';clear k7';have k8:=k8';clear k8';have k11:=k11';clear k11';have k12:=k12';clear k12';refine trd 11 λK hK=>?_;go_simp;refine zm13 ?_;intro hcy1;have d10:((y0.setCell ⟨w.heap.size+1+1+1+1,0,none⟩ (.slice va st.length vc)).setCell ⟨w.heap.size+1+1+1+1,1,none⟩ (.string (S s1))).cell? ⟨w.heap.size+1+1+1,0,none⟩=some (.slice ua bk.length uc):=by go_simp
    have d11:((y0.setCell ⟨w.heap.size+1+1+1+1,0,none⟩ (.slice va st.length vc)).setCell ⟨w.heap.size+1+1+1+1,1,none⟩ (.string (S s1))).cell? ⟨w.heap.size+1+1+1+1,0,none⟩=some (.slice va st.length vc):=by go_simp
    have d12:((y0.setCell ⟨w.heap.size+1+1+1+1,0,none⟩ (.slice va st.length vc)).setCell ⟨w.heap.size+1+1+1+1,1,none⟩ (.string (S s1))).cell? ⟨w.heap.size+1+1+1+1,1,none⟩=some (.string (S s1)):=by go_simp
    have k9':((y0.setCell ⟨w.heap.size+1+1+1+1,0,none⟩ (.slice va st.length vc)).setCell ⟨w.heap.size+1+1+1+1,1,none⟩ (.string (S s1))).cell? ⟨w.heap.size+1+1+1+1+1,0,none⟩=some (.int .i64 0):=by go_simp
    have k10':((y0.setCell ⟨w.heap.size+1+1+1+1,0,none⟩ (.slice va st.length vc)).setCell ⟨w.heap.size+1+1+1+1,1,none⟩ (.string (S s1))).cell? ⟨w.heap.size+1+1+1+1+1,1,none⟩=some (.string (S [])):=by go_simp
    have k11':((y0.setCell ⟨w.heap.size+1+1+1+1,0,none⟩ (.slice va st.length vc)).setCell ⟨w.heap.size+1+1+1+1,1,none⟩ (.string (S s1))).frozen? ⟨w.heap.size+1+1+1+1+1,0,none⟩=false:=by go_simp
    have k12':((y0.setCell ⟨w.heap.size+1+1+1+1,0,none⟩ (.slice va st.length vc)).setCell ⟨w.heap.size+1+1+1+1,1,none⟩ (.string (S s1))).frozen? ⟨w.heap.size+1+1+1+1+1,1,none⟩=false:=by go_simp
    obtain⟨y1,hy1⟩:∃y,((y0.setCell ⟨w.heap.size+1+1+1+1,0,none⟩ (.slice va st.length vc)).setCell ⟨w.heap.size+1+1+1+1,1,none⟩ (.string (S s1)))=y:=⟨_,rfl⟩;rw [hy1]at hcy1 d10 d11 d12 k9' k10' k11' k12';have hRy1:=hS3.a0b hcy1 oZ oZ;have hall1:Chg (λk=>w.heap.size+3<=k/\k<w.heap.size+6) v2 y1:=hall0.trans hcy1;refine hK.out _ _ (by rw [hy1];exact hRy1) (λhS4=>?_);clear hK K;rw [hy1]at hS4⊢;refine zm0 ?_;clear k5 k6 k7 k8 k9 k10 k11 k12 d00 hy1 hS3 hRy1;have k9:=k9';clear k9';have k10:=k10';clear k10';have k11:=k11';clear k11';have k12:=k12';clear k12';refine trd 12 λK hK=>?_;go_simp;refine zm14 ?_;intro hcy2;have d20:((y1.setCell ⟨w.heap.size+1+1+1+1+1,0,none⟩ (.int .i64 en)).setCell ⟨w.heap.size+1+1+1+1+1,1,none⟩ (.string (S ee))).cell? ⟨w.heap.size+1+1+1,0,none⟩=some (.slice ua bk.length uc):=by go_simp
    have d21:((y1.setCell ⟨w.heap.size+1+1+1+1+1,0,none⟩ (.int .i64 en)).setCell ⟨w.heap.size+1+1+1+1+1,1,none⟩ (.string (S ee))).cell? ⟨w.heap.size+1+1+1+1,0,none⟩=some (.slice va st.length vc):=by go_simp
    have d22:((y1.setCell ⟨w.heap.size+1+1+1+1+1,0,none⟩ (.int .i64 en)).setCell ⟨w.heap.size+1+1+1+1+1,1,none⟩ (.string (S ee))).cell? ⟨w.heap.size+1+1+1+1,1,none⟩=some (.string (S s1)):=by go_simp
    have d23:((y1.setCell ⟨w.heap.size+1+1+1+1+1,0,none⟩ (.int .i64 en)).setCell ⟨w.heap.size+1+1+1+1+1,1,none⟩ (.string (S ee))).cell? ⟨w.heap.size+1+1+1+1+1,0,none⟩=some (.int .i64 en):=by go_simp
    have d24:((y1.setCell ⟨w.heap.size+1+1+1+1+1,0,none⟩ (.int .i64 en)).setCell ⟨w.heap.size+1+1+1+1+1,1,none⟩ (.string (S ee))).cell? ⟨w.heap.size+1+1+1+1+1,1,none⟩=some (.string (S ee)):=by go_simp
    obtain⟨y2,hy2⟩:∃y,((y1.setCell ⟨w.heap.size+1+1+1+1+1,0,none⟩ (.int .i64 en)).setCell ⟨w.heap.size+1+1+1+1+1,1,none⟩ (.string (S ee)))=y:=⟨_,rfl⟩;rw [hy2]at hcy2 d20 d21 d22 d23 d24;have hRy2:=hS4.a0b hcy2 oZ oZ;have hall2:Chg (λk=>w.heap.size+3<=k/\k<w.heap.size+6) v2 y2:=hall1.trans hcy2;refine hK.out _ _ (by rw [hy2];exact hRy2) (λhS5=>?_);clear hK K;rw [hy2]at hS5⊢;refine zm0 ?_;clear k9 k10 k11 k12 d10 d11 d12 hy2 hS4 hRy2;refine zm12 ?_;intro HEN HOR HBL hz7;clear hS5 hall0 hall1 hall2 hcy0 hcy1 hcy2;go_wp2;refine bodyPost_ret (v:=.tuple #[.agg #[.slice ua bk.length uc],a0y (.slice va st.length vc) s1,a1d (en,ee),.bool true]) (by simp [a0y,a1d,d20,d21,d22,d23,d24,results,results212,go_sem]) rfl ⟨.slice ua bk.length uc,.slice va st.length vc,w4.heap.size,by rw [HP.o],by rw [HP.o];exact HEN.o,by rw [HP.o];exact HOR.o,by omega,by omega,HBL.o⟩
end Go.Proofs.YtggfdnopminemaaGreatDoor
