/- Walks: a dictionary. -/
import Derived.Test.YtggfdnopminemaaGreatDoorPut3
set_option linter.all false
namespace Go.Proofs.YtggfdnopminemaaGreatDoor
open Go Go.RowKit
set_option maxHeartbeats 8000000
set_option maxRecDepth 100000
variable {F X:Blk} {B b n:Nat} {l:P.Dic} {u:Go.Value} {v v':Go.World}
structure a8a (l:P.Dic):Prop where
 len:l.length<=60
 outs:∀e∈l,e.1.length<=8
 texts:∀e∈l,e.2.length<=300
theorem a8a.small (h:a8a l):Small l:=⟨by have:=h.len;omega,λe he=>by have:=h.outs e he;omega,λe he=>by have:=h.texts e he;omega⟩
theorem d9b (e:P.Ent) (l:P.Dic):0<(P.putF e false l).length:=List.length_pos_of_mem ((P.a5t e l e).2 (.inl rfl))
theorem c0j {e x:P.Ent} (h:x∈P.putF e false l):x=e\/x∈l:=by
 rcases (P.a5t e l x).1 h with h|h
 .exact .inl h
 .exact .inr (P.b3a h)
def b2b (lo:Nat) (v:World) (u:Value) (n:Nat):Prop:=∃B xs,lo<=B/\v.ownsRow B 119 2 u n xs
theorem b2b.a0b {lo:Nat} (h:b2b lo v u n) (hc:Chg X v v') (hX:∀k,lo<=k->k<v.heap.size->¬X k):b2b lo v' u n:=by
 obtain⟨B,xs,h1,h2⟩:=h;exact⟨B,xs,h1,a1e h2 hc λk hk=>by have h3:=World.ownsRow.lt h2 k hk;exact hX k oZ h3.2⟩
def d9p (B C K:Nat) (w:World) (e:Ending) (w':World):Prop:=∃(l:P.Dic) (u:Value),e=.returned (.agg #[u])/\a8a l/\l.length<=9/\0<l.length/\Ents w' (Bet w.heap.size w'.heap.size) u l/\b2b w.heap.size w' u l.length/\a0d B C K w w'
def d4p (l:P.Dic):Prop:=(∀e∈l,e.1.length<=3)/\l.Pairwise P.lt
theorem d4p.put (h:d4p l) {o:List Int} {t:Str} (ho:o.length<=3):d4p (P.putF (o,t) false l):=
 ⟨λe he=>(c0j he).elim (λe'=>by rw [e'];exact ho) (h.1 e),P.a7t _ _ h.2⟩
def d5o (B C K:Nat) (w:World) (e:Ending) (w':World):Prop:=∃(l:P.Dic) (u:Value),e=.returned (.agg #[u])/\a8a l/\d4p l/\l.length<=9/\0<l.length/\Ents w' (Bet w.heap.size w'.heap.size) u l/\b2b w.heap.size w' u l.length/\a0d B C K w w'
def DBx (b:Nat) (u:Value) (v:World):Prop:=v.cell? ⟨b,0,none⟩=some u/\v.frozen? ⟨b,0,none⟩=false/\b<v.heap.size
theorem DBx.a0b (h:DBx b u v) (hc:Chg X v v') (hX:¬X b):DBx b u v':=
 ⟨(hc.cell (p:=⟨b,0,none⟩) h.2.2 hX).trans h.1,(hc.frozen (p:=⟨b,0,none⟩) h.2.2 hX).trans h.2.1,Nat.lt_of_lt_of_le h.2.2 hc.size⟩
theorem DBx.below (h:DBx b u v) (hb:Bl v v'):DBx b u v':=h.a0b (Below.chg hb λ_=>False) λh=>h
theorem DBx.new (u:Value) (t:TypeId) (v:World):DBx v.heap.size u (v.alloc (.cells #[u] t)):=by
 refine⟨?_,?_,?_⟩<;>go_simp
theorem DBx.put {u':Value} (h:DBx b u v):DBx b u' (v.setCell ⟨b,0,none⟩ u'):=
 ⟨World.cell?_setCell_same _ _ _ h.1,by simpa using h.2.1,by simpa [World.setCell] using h.2.2⟩
def DRun (B C K:Nat) (w v:World) (l:P.Dic) (u:Value):Prop:=
 (∃a c,u=.slice a l.length c)/\(a8a l/\d4p l)/\Ents v (Bet (w.heap.size+2) v.heap.size) u l/\b2b (w.heap.size+2) v u l.length/\DBx (w.heap.size+1) u v/\DBx w.heap.size (.slice none 0 0) v/\a0d B C K w v
theorem b6l (B C N:Nat) (w:World) (hN:N<2^33) (h:a1o B C N w) :
 Cz 110 #[.pointer (some ⟨C,0,none⟩)] w (d5o B C (N+1000) w):=by
 have hlt:=h.lt
 have hba:Bl w ((w.alloc (.cells #[.slice none 0 0] 26)).alloc (.cells #[.slice none 0 0] 26)):=((Below.refl w.heap.size w).alloc lZ _).alloc sZ _
 have HC:=qh ((a0d.refl h (Nat.le_refl N)).below hba)
 have HD1:=qh (show DBx (w.heap.size+1) (.slice none 0 0) ((w.alloc (.cells #[.slice none 0 0] 26)).alloc (.cells #[.slice none 0 0] 26)) by have h:=DBx.new (.slice none 0 0) 26 (w.alloc (.cells #[.slice none 0 0] 26));simpa using h)
 have HD0:=qh ((DBx.new (.slice none 0 0) 26 w).below (bZ.alloc lZ (.cells #[.slice none 0 0] 26)))
 clear h hba
 go_enter Tryz.func110,Tryz.ntmps110
 go_wp2_with fail
 refine (a0y B C N 7 _ oZ dZ HC.o.1).mono ?_
 rintro e w1 ⟨x,hx,rfl,hc⟩
 have hx7:x<7:=by omega
 have HR:=qh (show DRun B C (N+2) w w1 [] (.slice none 0 0) from⟨⟨none,0,rfl⟩,⟨⟨by simp,(λe h=>by cases h),(λe h=>by cases h)⟩,(λe h=>by cases h),List.Pairwise.nil⟩,RowO.nil _ _,⟨w.heap.size+2,[],Nat.le_refl _,World.ownsRow_nil _ _ _ _⟩,HD1.o.a0b hc.2 oZ,HD0.o.a0b hc.2 oZ,HC.o.trans hc⟩)
 clear hc hx HC HD1 HD0
 go_wp2_with fail
 go_loopw [4] (λn wr=>∃(l:P.Dic) (u:Value) (k:Nat),l.length+k<=9/\(0<l.length\/0<k)/\n=.int .i64 k/\DRun B C (N+1000-100*k) w wr l u) (λn _=>(intOf n).toNat)
 case atStart=>
  obtain⟨h1,h2,h3,h4,h5,h6,h7⟩:=HR.o;exact⟨[],_,x+3,by simp;omega,.inr oZ,by go_num,h1,h2,h3,h4,h5,h6,h7.mono oZ⟩
 case round=>
  obtain⟨l,u,k,hk,hpos,rfl,hr⟩:=hrel;have H3:=qh hr;obtain⟨⟨ua,uc,rfl⟩,hdr,hen,hwh,hbx,hbr,hcp⟩:=hr
  by_cases hp:0<k
  .have hS:=qh (show wr.drew.cell? ⟨w.heap.size+1,0,none⟩=some (.slice ua l.length uc)/\wr.drew.frozen? ⟨w.heap.size+1,0,none⟩=false from⟨hbx.1,hbx.2.1⟩);have HE1:=qh (hen.below a0e (Below.refl wr.heap.size wr).drew);have HW1:=qh (hwh.a0b (X:=λ_=>False) (Below.chg (Below.refl wr.heap.size wr).drew _) (λ_ _ _ h=>h));have HB1:=qh (hbx.below (Below.refl wr.heap.size wr).drew);have HB0:=qh (hbr.below (Below.refl wr.heap.size wr).drew);have HC1:=qh hcp.drew;have HDR:=qh hdr.1;have HSH:=qh hdr.2;have HPS:=qh hpos;clear hen hwh hbx hbr hcp hdr hpos;go_upto_region 5 with fail;refine Left.region [4] (S:=λv=>v.cell? ⟨w.heap.size+1,0,none⟩=some (.slice ua l.length uc)/\v.frozen? ⟨w.heap.size+1,0,none⟩=false) kZ hS.o (λhS0=>?_);generalize wr.drew=v0 at *;refine lk7 0 hS0 ?_;refine lk7 1 hS0 ?_;refine lrd 2 λK hK=>?_;go_simp;refine (c3l B C (N+1000-100*k) _ oZ HC1.o.1).mono ?_;rintro e v1 ⟨o,t,x,rfl,ho,ht,hI,hc⟩;have hz0:w.heap.size+1<v0.heap.size:=HB1.o.2.2;have hz1:v0.heap.size<=v1.heap.size:=hc.2.size;have HE2:=qh (HE1.o.a0b a0e hc.2 (λb hb e=>by have h1:=hb.1;omega));have HB2:=qh (HB1.o.a0b hc.2 oZ);have HB02:=qh (HB0.o.a0b hc.2 oZ);have HC2:=qh (HC1.o.trans hc);have HI:=qh hI;refine a2a hK dZ ⟨HB2.o.1,HB2.o.2.1⟩ (λhS1=>?_);clear hK K hc hI HE1 HB1 HB0 HC1;obtain⟨xd,xc,rfl,_,_⟩:=id HI.o;refine zm0 ?_;refine lrd 3 λK hK=>?_;go_simp;refine (e0a _ _ l o t _ (Ents.read HE2.o) (Ints.read HI.o) HDR.o.small.len HDR.o.small.outs oZ).mono ?_;rintro e v2 ⟨u2,rfl,hI2,hw2,hb⟩;have hz2:v1.heap.size<=v2.heap.size:=hb.size;have HB3:=qh (HB2.o.below hb);have HB03:=qh (HB02.o.below hb);have HC3:=qh (HC2.o.below hb);have HI2:=qh hI2;have HW2:Hq (b2b v1.heap.size v2 u2 (P.putF (o,t) false l).length):=⟨hw2⟩;refine a2a hK dZ ⟨HB3.o.1,HB3.o.2.1⟩ (λhS2=>?_);clear hK K hb hI2 hw2 HB2 HB02 HC2;obtain⟨u2d,u2c,rfl,_,_⟩:=id HI2.o;refine zm0 ?_;refine lrd 4 λK hK=>?_;obtain⟨k0,k1,_⟩:=HB3.o;go_simp;refine a4b hK dZ ?_;clear hK K;refine zm0 ?_;refine Left.done kZ ?_ _;have HPL:=qh (P.d4a (o,t) l)
   have HRUN:=qh (show DRun B C (N+1000-100*(k-1)) w (v2.setCell ⟨w.heap.size+1,0,none⟩ (.slice u2d (P.putF (o,t) false l).length u2c)) (P.putF (o,t) false l) (.slice u2d (P.putF (o,t) false l).length u2c) from by
    have hset:Chg (λb=>b=w.heap.size+1) v2 (v2.setCell ⟨w.heap.size+1,0,none⟩ (.slice u2d (P.putF (o,t) false l).length u2c)):=(Chg.refl (λb=>b=w.heap.size+1) v2).setCell (p:=⟨w.heap.size+1,0,none⟩) rfl _;have hsz:(v2.setCell ⟨w.heap.size+1,0,none⟩ (.slice u2d (P.putF (o,t) false l).length u2c)).heap.size=v2.heap.size:=by simp [World.setCell]
    refine⟨⟨_,_,rfl⟩,⟨⟨?_,?_,?_⟩,HSH.o.put ho⟩,?_,?_,HB3.o.put,HB03.o.a0b hset oZ,(HC3.o.set (g:=w.heap.size+1) (i:=0) oZ hlt.2 oZ _).mono oZ⟩
    .have:=HPL.o;have:=HDR.o.len;omega
    .intro e he
     rcases c0j he with rfl|he
     .show o.length<=8;omega
     .exact HDR.o.outs e he
    .intro e he
     rcases c0j he with rfl|he
     .exact ht
     .exact HDR.o.texts e he
    .refine (HI2.o.a0b a0e hset (λb hb e=>by have h1:=hb.1;omega)).wide (λb hb=>⟨by have h1:=hb.1;omega,by rw [hsz];exact hb.2⟩) (λb hb=>hb.2)
    .obtain⟨B1,xs,h1,h2⟩:=HW2.o.a0b hset (λk h1 h2 e=>by omega);exact⟨B1,xs,by omega,h2⟩)
   have HPP:=qh (d9b (o,t) l);clear hS0 hS1 hS2 hS HE2 HI HI2 HW2 HB3 HB03 HC3 k0 k1 HW1;generalize v2.setCell ⟨w.heap.size+1,0,none⟩ (.slice u2d (P.putF (o,t) false l).length u2c)=v3 at *;go_wp2
   go_roundw
   case rel=>exact⟨_,_,k-1,by have:=HPL.o;omega,.inl HPP.o,by go_num,HRUN.o⟩
   case measure=>exact zq
  .have HPS:=qh (show 0<l.length by omega);have HDR:=qh hdr;have HEN:=qh hen;have HWH:=qh hwh;have HCP:=qh hcp;have HBX:=qh hbx;have HBR:=qh hbr;obtain⟨b0,f0,z0⟩:=hbx;obtain⟨r0,g0,y0⟩:=hbr;clear hdr hen hwh hcp hpos;go_wp2;refine bodyPost_ret (v:=.agg #[.slice ua l.length uc]) (by simp [results,Tryz.results110,go_sem,r0]) rfl ⟨l,_,rfl,HDR.o.1,HDR.o.2,by omega,HPS.o,?_,?_,?_⟩
   .refine b2k w.heap.size HEN.o λb hb=>?_;have h1:=hb.1;have h2:=hb.2;omega
   .obtain⟨B1,xs,h1,h2⟩:=HWH.o.a0b ((Chg.refl (λb=>b=w.heap.size) wr).setCell (p:=⟨w.heap.size,0,none⟩) rfl (.slice ua l.length uc)) (λk h1 h2 e=>by omega);exact⟨B1,xs,by omega,h2⟩
   .exact (HCP.o.set (g:=w.heap.size) (i:=0) lZ hlt.2 oZ _).mono oZ
theorem a9u (B C N:Nat) (w:World) (hN:N<2^33) (h:a1o B C N w) :
 Cz 110 #[.pointer (some ⟨C,0,none⟩)] w (d9p B C (N+1000) w):=
 (b6l B C N w hN h).mono λ_ _ ⟨l,u,h1,h2,_,h4⟩=>⟨l,u,h1,h2,h4⟩
abbrev EIt:=(Value×P.Ent)×Blk
structure EOk (v:World) (F:Blk) (its:List EIt):Prop where
 ent:∀t∈its,Ints v t.2 t.1.1 t.1.2.1
 sub:∀t∈its,∀b,t.2 b->F b
 apart:its.Pairwise λa b=>∀x,a.2 x->b.2 x->False
theorem EOk.keep {its:List EIt} (h:EOk v F its) (hk:Kept F v v'):EOk v' F its:=
 ⟨λt ht=>(h.ent t ht).keep a1k (hk.mono λb hb=>h.sub t ht b hb),h.sub,h.apart⟩
theorem Ents.items {ad:Option Addr} {cap:Nat} (h:Ents v F (.slice ad n cap) l):∃its:List EIt,its.map (·.1.2)=l/\EOk v F its /\
 ∀(j:Nat) (hj:j<its.length),∃g o,ad=some ⟨g,o,none⟩/\F g/\g<v.heap.size/\v.cell? ⟨g,o+j*2,none⟩=some (its[j]'hj).1.1/\v.cell? ⟨g,o+j*2+1,none⟩=some (.string (S (its[j]'hj).1.2.2)):=by
 obtain⟨ad',cap',he,h1,hn,h3⟩:=h
 injection he with e1 e2 e3
 subst e1
 rcases h3 with rfl|⟨g,o,G,C,rfl,hr⟩
 .exact⟨[],rfl,⟨(λ_ h=>by cases h),(λ_ h=>by cases h),List.Pairwise.nil⟩,λj hj=>absurd hj (Nat.not_lt_zero _)⟩
 .have hx:∀j,∃x,∀hj:j<l.length,C j=[x,.string (S (l[j]'hj).2)]/\Ints v (G j) x (l[j]'hj).1:=by
   exact zq141
  obtain⟨f,hf⟩:=Classical.axiomOfChoice hx;refine⟨List.ofFn λj:Fin l.length=>((f j,l[j]),G j),?_,⟨?_,?_,?_⟩,?_⟩
  .refine List.ext_getElem sZ λi h1 h2=>by simp
  .intro t ht;obtain⟨j,rfl⟩:=List.mem_ofFn.1 ht;exact (hf j j.2).2
  .intro t ht;obtain⟨j,rfl⟩:=List.mem_ofFn.1 ht;exact λb hb=>(hr.sub j j.2 b hb).1
  .exact zq151
  .intro j hj;have hj':j<l.length:=by simpa using hj
   refine⟨g,o,rfl,hr.own,hr.lt _ hr.own,?_,?_⟩
   .have h:=hr.cel j hj' 0 (by rw [(hf j hj').1];simp);simp only [(hf j hj').1,List.getElem_cons_zero,Nat.add_zero]at h;rw [List.getElem_ofFn];exact h.1
   .have h:=hr.cel j hj' 1 (by rw [(hf j hj').1];simp);simp only [(hf j hj').1,List.getElem_cons_zero,List.getElem_cons_succ]at h;rw [List.getElem_ofFn];exact h.1
abbrev a6r (its:List EIt):List Value:=its.flatMap λt=>[t.1.1,.string (S t.1.2.2)]
theorem b0w:∀its:List EIt,(a6r its).length=its.length*2
 |[]=>rfl
 |t::its=>by
  have h:=b0w its;simp only [a6r,List.flatMap_cons,List.length_append,List.length_cons,List.length_nil]at h⊢;omega
theorem b2y:∀(its:List EIt) (j:Nat) (h:j<its.length),(a6r its)[j*2]?=some (its[j]'h).1.1/\(a6r its)[j*2+1]?=some (.string (S (its[j]'h).1.2.2))
 |t::its,0,_=>⟨rfl,rfl⟩
 |t::its,j+1,h=>by
  have:=b2y its j (by simpa using h);have e:a6r (t::its)=t.1.1::.string (S t.1.2.2)::a6r its:=rfl;rw [e,show (j+1)*2=j*2+1+1 by omega]
  simpa using this
theorem b9o (a b:List EIt):a6r (a++b)=a6r a++a6r b:=by unfold a6r;rw [List.flatMap_append]
theorem b9t {g c:Nat} {its:List EIt} (hown:v.ownsRow B 119 2 (.slice (some ⟨g,0,none⟩) its.length c) its.length (a6r its)) (ho:EOk v F its) (hF:∀b,F b->b<v.heap.size) (hg:¬F g) (hl:its.length<=2^30) :
 Ents v (λb=>F b\/b=g) (.slice (some ⟨g,0,none⟩) its.length c) (its.map (·.1.2)):=by
 have hlt:=World.ownsRow.lt hown g rfl
 rcases id hown.2 with⟨hv,_⟩|⟨g',cap,cur,hv,_,_,hnc,_⟩
 .cases hv
 .injection hv with e1 e2 e3;subst e3;refine⟨_,c,by rw [List.length_map],by rw [List.length_map];exact hl,⟨(λh=>by cases h),by rw [List.length_map];exact hnc⟩,.inr ⟨g,0,λj=>match its[j]? with|some t=>t.2|none=>λ_=>False,λj=>match its[j]? with|some t=>[t.1.1,.string (S t.1.2.2)]|none=>[],rfl,RowC.mk_at _ _ (.inr rfl) (λb hb=>by rcases hb with hb|rfl;exact hF b hb;exact hlt.2) (λj hj=>?_) (λi j hij hj b h1 h2=>?_)⟩⟩
  .have hj':j<its.length:=by simpa using hj
   have e:its[j]?=some (its[j]'hj'):=List.getElem?_eq_getElem hj';have hm:=List.getElem_mem hj';simp only [e];refine⟨?_,rfl,?_,λb hb=>?_⟩
   .obtain⟨a,b⟩:=b2y its j hj';intro i hi;have hi2:i<2:=by simpa using hi
    have c:=World.ownsRow.cellAt hown (j*2+i) oZ;refine⟨?_,World.ownsRow.frozenAt hown _⟩;rw [show 0+j*2+i=0+(j*2+i) by omega,Nat.zero_add]at *;rw [c]
    rcases (show i=0\/i=1 by omega) with rfl|rfl
    .exact a
    .exact b
   .refine⟨(its[j]'hj').1.1,by simp,?_⟩;have:=ho.ent _ hm
    simpa using this
   .exact⟨.inl (ho.sub _ hm b hb),λe=>hg (e ▸ ho.sub _ hm b hb)⟩
  .have hj':j<its.length:=by simpa using hj
   have ei:its[i]?=some (its[i]'(by omega)):=List.getElem?_eq_getElem oZ;have ej:its[j]?=some (its[j]'hj'):=List.getElem?_eq_getElem hj';simp only [ei]at h1;simp only [ej]at h2;exact (List.pairwise_iff_getElem.1 ho.apart) i j oZ hj' hij b h1 h2
theorem Ents.b0q {xs:List Value} (h:Ents v F u l) (hw:v.ownsRow B 119 2 u l.length xs) (hn:0<l.length) :
 ∃g cap its,u=.slice (some ⟨g,0,none⟩) l.length cap/\B<=g/\g<v.heap.size/\F g/\its.map (·.1.2)=l/\xs=a6r its/\EOk v (λb=>F b/\b≠g) its:=by
 rcases id hw.2 with⟨_,h0⟩|⟨g,cap,cur,rfl,hg,hh,hnc,hcm,hcs,htk⟩
 .omega
 .obtain⟨ad',cap',he,h1,hnn,h3⟩:=h;injection he with e1 e2 e3
  rcases h3 with rfl|⟨g',o,G,C,h4,hr⟩
  .exact absurd hn (Nat.lt_irrefl _)
  .rw [h4]at e1;injection e1 with e1;injection e1 with e1 e5;subst e1 e5
   have hx:∀j,∃x,∀hj:j<l.length,C j=[x,.string (S (l[j]'hj).2)]/\Ints v (G j) x (l[j]'hj).1:=by
    exact zq141
   obtain⟨f,hf⟩:=Classical.axiomOfChoice hx;refine⟨g,cap,List.ofFn λj:Fin l.length=>((f j,l[j]),G j),rfl,hg,hr.lt _ hr.own,hr.own,?_,?_,⟨?_,?_,?_⟩⟩
   .refine List.ext_getElem sZ λi h1 h2=>by simp
   .apply List.ext_getElem?;intro i;have hcell:=World.ownsRow.cells hw (g:=g) rfl
    by_cases hi:i<l.length*2
    .have hil:i<xs.length:=by rw [hw.1];exact hi
     have hc:=hcell i (xs[i]'hil) (List.getElem?_eq_getElem hil);rw [add0]at hc;rw [List.getElem?_eq_getElem hil];have hj:i / 2<l.length:=by omega
     have hj':i / 2<(List.ofFn λj:Fin l.length=>(((f j,l[j]),G j):EIt)).length:=by simpa using hj
     obtain⟨a,b⟩:=b2y (List.ofFn λj:Fin l.length=>(((f j,l[j]),G j):EIt)) (i / 2) hj';simp only [List.getElem_ofFn]at a b
     rcases Nat.mod_two_eq_zero_or_one i with hm|hm
     .have h:=(hr.cel (i / 2) hj 0 (by rw [(hf _ hj).1];simp)).1;simp only [(hf _ hj).1,List.getElem_cons_zero]at h;rw [show 0+i / 2*2+0=i by omega,hc]at h;rw [show i / 2*2=i by omega]at a;rw [a,h]
     .have h:=(hr.cel (i / 2) hj 1 (by rw [(hf _ hj).1];simp)).1;simp only [(hf _ hj).1,List.getElem_cons_zero,List.getElem_cons_succ]at h;rw [show 0+i / 2*2+1=i by omega,hc]at h;rw [show i / 2*2+1=i by omega]at b;rw [b,h];rfl
    .rw [List.getElem?_eq_none (by rw [hw.1];omega),List.getElem?_eq_none (by rw [b0w];simp;omega)]
   .intro t ht;obtain⟨j,rfl⟩:=List.mem_ofFn.1 ht;exact (hf j j.2).2
   .intro t ht;obtain⟨j,rfl⟩:=List.mem_ofFn.1 ht;exact λb hb=>hr.sub j j.2 b hb
   .exact zq151
end Go.Proofs.YtggfdnopminemaaGreatDoor
