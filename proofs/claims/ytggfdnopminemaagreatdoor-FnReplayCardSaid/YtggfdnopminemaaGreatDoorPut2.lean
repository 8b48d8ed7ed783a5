/- Walks: an entry put. -/
import Derived.Test.YtggfdnopminemaaGreatDoorDelA
set_option linter.all false
namespace Go.Proofs.YtggfdnopminemaaGreatDoor
open Go.Proofs.Tryz
variable {W g p:Nat} {l:P.Dic} {v':Go.World}
namespace P
def a4e (e:Ent) (l:Dic):Bool:=dic l&&(entry e&&decide ((putF e false l).length<=40))
theorem b7b {l:Dic} (h:dic l=true):l.length<=40:=by
 unfold dic at h;simp only [Bool.and_eq_true,decide_eq_true_eq]at h;exact h.1
theorem d7e {e:Ent} {l:Dic} (hl:dic l=true) (he:entry e=true):dic (putF e false l)=decide ((putF e false l).length<=40):=by
 unfold dic at hl;simp only [Bool.and_eq_true]at hl;have h1:=(a2q _).2 (a7o e l ((a2q l).1 hl.2.2));unfold dic;rw [d0q he hl.2.1,h1];simp
theorem put_ne {e:Ent} {l:Dic} (hl:dic l=true):(del e.1 l++[e]).Pairwise λa b=>a.1≠b.1:=by
 rw [List.pairwise_append];refine⟨List.Pairwise.filter _ ((b1p hl).imp λ{a b} hab he=>?_),by simp,λa ha b hb=>?_⟩
 .unfold lt at hab;rw [he,a3x]at hab;exact absurd hab dZ
 .rw [List.mem_singleton]at hb;subst hb;exact (b0z.1 ha).2
theorem d4o (e:Ent) (l:Dic):(putF e false l).length<=l.length+1:=by
 have h1:=b9g e l;have h2:=b7o e l;rw [<-h1]
 cases h:(a1p e l).2 with
 |true=>rw [h]at h2;simpa using h2
 |false=>rw [h]at h2;simpa using h2
end P
open Go Go.RowKit
set_option maxHeartbeats 8000000
set_option maxRecDepth 100000
theorem d6c {e:P.Ent} (h:Small l) (h0:l.length<2^20) (h1:e.1.length<=2^20) (h2:e.2.length<=2^30):Small (P.putF e false l):=by
 refine⟨by have:=P.d4o e l;omega,λx hx=>?_,λx hx=>?_⟩
 .rcases (P.a6g e l x).1 hx with rfl|hx
  .exact h1
  .exact h.outs x (P.b3v hx)
 .rcases (P.a6g e l x).1 hx with rfl|hx
  .exact h2
  .exact h.texts x (P.b3v hx)
def DkPost (ok:Bool) (l:P.Dic) (w:World) (e:Ending) (w':World):Prop:=
 ∃u,e=.returned (.tuple #[.agg #[u],.bool ok])/\Ents w' (Bet w.heap.size w'.heap.size) u (P.kept ok l)/\Bl w w'
abbrev d7b (e:P.Ent) (l:P.Dic):=DkPost (P.a4e e l) (P.putF e false l)
def IBox (W:Nat) (dv x:Value) (t:Str) (v:World):Prop:=
 v.cell? ⟨W,0,none⟩=some dv/\v.cell? ⟨W+1,0,none⟩=some x/\v.cell? ⟨W+1,1,none⟩=some (.string (S t))/\v.cell? ⟨W+2,0,none⟩=some (.slice none 0 0)/\v.frozen? ⟨W+2,0,none⟩=false/\W+2<v.heap.size
theorem IBox.below {dv x:Value} {t:Str} {v:World} (h:IBox W dv x t v) (hb:Bl v v'):IBox W dv x t v':=by
 obtain⟨a,b,b1,c,d,e⟩:=h;exact⟨(hb.cell (p:=⟨W,0,none⟩) (by show W<_;omega)).trans a,(hb.cell (p:=⟨W+1,0,none⟩) (by show W+1<_;omega)).trans b,(hb.cell (p:=⟨W+1,1,none⟩) (by show W+1<_;omega)).trans b1,(hb.cell (p:=⟨W+2,0,none⟩) e).trans c,(hb.frozen (p:=⟨W+2,0,none⟩) e).trans d,Nat.lt_of_lt_of_le e hb.size⟩
theorem IBox.new (dv x:Value) (t:Str) (w:World):IBox w.heap.size dv x t (((w.alloc (.cells #[dv] 26)).alloc (.cells #[x,.string (S t)] 119)).alloc (.cells #[.slice none 0 0] 26)):=by
 refine⟨?_,?_,?_,?_,?_,?_⟩<;>go_simp
theorem b3p {v:World} {F:Blk} {u x:Value} (k:Nat) (h:Ents v F u l) (hF:∀b,F b->W<=b/\b<v.heap.size/\b≠k):Ents (v.setCell ⟨k,0,none⟩ x) (Bet W (v.setCell ⟨k,0,none⟩ x).heap.size) u l:=by
 refine (h.a0b (X:=λb=>b=k) a0f ((Chg.refl (λb=>b=k) v).setCell (p:=⟨k,0,none⟩) rfl _) ?_).wide ?_ ?_
 .intro b hb e;exact (hF b hb).2.2 e
 .intro b hb;have:=hF b hb;exact⟨this.1,by simp [World.setCell];omega⟩
 .intro b hb;exact hb.2
theorem e1j (x:Value) (eo o:List Int) (t:Str) (C:Nat) (ov:Value) (w:World) (hx:IntR w x eo) (hc:w.cell? ⟨C,0,none⟩=some ov) (ho:IntR w ov o) :
 Cz 314 #[.agg #[x,.string (S t)],.pointer (some ⟨C,0,none⟩)] w λe w'=>e=.returned (.bool (!decide (eo=o)))/\Bl w w':=by
 refine zm24 ?_;intro hb0 HX HO hc' HB0;obtain⟨xd,xc,rfl,_,_⟩:=hx;obtain⟨od,oc,rfl,_,_⟩:=ho;clear hb0 hc;go_enter func314,ntmps314;go_wp2_with fail;refine (b6d _ _ eo o _ HX.o HO.o).mono ?_;rintro e w1 ⟨rfl,hb⟩;have HB1:=qh (HB0.o.trans (hb.mono sZ));clear hb
 cases hok:decide (eo=o)
 .exact d9y
 .exact d9y
theorem d3q (u ov:Value) (l:P.Dic) (o:List Int) (C:Nat) (w:World) (hu:EntR w u l) (hl:l.length<=2^20) (hc:w.cell? ⟨C,0,none⟩=some ov) (ho:IntR w ov o) :
 Cz 311 #[u,.func (Fn.func 314) #[] #[.pointer (some ⟨C,0,none⟩)]] w
  λe w'=>(∃u' xs,e=.returned u'/\Acc 119 2 (refE w) w.heap.size w' u' (P.del o l) xs)/\Bl w w':=by
 obtain⟨i0,hi,hz0,hz1,hz2⟩:=info_parts a5i;refine zm91 ?_;intro HU HO HC HCL HB0
 have HA0:=qh (show Acc 119 2 (refE w) w.heap.size (w.alloc (.cells #[] 119)) (.slice (some ⟨w.heap.size,0,none⟩) 0 0) [] [] from
  Acc.nil (by have h:=World.ownsRow_lit (base:=w.heap.size) (e:=119) (size:=2) w #[] 0 lZ (Nat.zero_le _) sZ;simpa using h) sZ)
 obtain⟨ad,cap,rfl,_,_⟩:=hu
 clear hc ho
 go_enter func311,ntmps311
 go_wp2_with fail
 go_loopw [5,11] (λs i wr=>∃(j:Nat) (xs:List Value),j<=l.length/\i=.int .i64 j/\Acc 119 2 (refE w) w.heap.size wr s (P.del o (l.take j)) xs/\Bl w wr) (λ_ i _=>l.length-(intOf i).toNat)
 case atStart=>exact⟨0,[],Nat.zero_le _,rfl,HA0.o,HB0.o⟩
 case round=>
  obtain⟨j,xs,hj,rfl,hacc,hb⟩:=hrel;clear HA0 HB0;have HBZ:=qh hb.size;have HA:=qh hacc;have HB:=qh hb;have hdl:(P.del o (l.take j)).length<=j:=Nat.le_trans (P.b6m _ _) (by rw [List.length_take];omega);obtain⟨uad,ucap,rfl⟩:=hacc.form;clear hacc
  by_cases hlt:j<l.length
  .obtain⟨g,p,hga,hgs,x,c0,c1,hx⟩:=HU.o.at j hlt;refine zm16 ?_;intro HXW c0' c1' HEN hba HBA HX HO2 HC2;obtain⟨xd,xc,rfl,_,_⟩:=hx;subst hga;generalize l[j]=en at *;obtain⟨eo,et⟩:=en;simp only at HX HXW HBA HEN c1' c1 hba HC2 HO2;generalize P.del o (l.take j)=dl at *;have i1:(j:Int)<(l.length:Int):=by omega
   clear hb hba c0 c1;go_wp2_with fail;refine (e1j _ eo o et C ov _ HX.o HC2.o HO2.o).mono ?_;exact zq6
  .refine zm90 ?_;intro HT;clear hb;go_wp2;go_ret;refine⟨⟨.slice uad (P.del o (l.take j)).length ucap,xs,rfl,?_⟩,HB.o⟩;have h:=HA.o;rw [HT.o]at h⊢;exact h
theorem c7w (dv x:Value) (l:P.Dic) (o:List Int) (t:Str) (w:World) (hu:EntR w dv l) (ho:IntR w x o) (hs:Small l) (h1:o.length<=2^20) (h2:t.length<=2^30) (hE:Env w) :
 Cz 271 #[.agg #[dv],.agg #[x,.string (S t)]] w (d7b (o,t) l w):=by
 obtain⟨i0,hi,hz0,hz1,hz2⟩:=info_parts a5i;refine zm58 ?_;intro hb0 HU HO;have HE:=qh (hE.below hb0 hE.size);have HB0:=qh hb0;clear hb0 hE;have HN:=qh (IBox.new dv x t w);have HSM:=qh hs;clear hs;have HL1:=qh h1;have HL2:=qh h2;clear h1 h2;obtain⟨ad,cap,rfl,_,_⟩:=hu;obtain⟨od,oc,rfl,_,_⟩:=ho;go_enter func271,ntmps271;go_wp2_with fail;refine (a1e _ l _ HU.o HSM.o.texts HE.o).mono ?_;rintro e w1 ⟨rfl,hb⟩;have HU1:=qh (HU.o.below hb);have HO1:=qh (HO.o.below hb);have HE1:=qh (HE.o.below hb HE.o.size);have HN1:=qh (HN.o.below hb);refine zm59 ?_;intro HB1;clear hb HU HB0 HN HO HE
 cases hd:P.dic l
 .have HD:=qh (show P.a4e (o,t) l=false by unfold P.a4e;rw [hd];rfl);clear hd;obtain⟨_,_,_,b0,f0,_⟩:=HN1.o;go_wp2;refine bodyPost_ret (v:=.tuple #[.agg #[.slice none 0 0],.bool false]) (by simp [results,results271,go_sem,b0]) rfl ⟨_,by rw [HD.o],?_,?_⟩
  .rw [HD.o];exact RowO.nil _ _
  .exact HB1.o.setCell (by simp;omega) _
 .have HDC:=qh hd;clear hd;have HL0:=qh (show l.length<2^20 by have:=P.b7b HDC.o;omega);have HSP:=qh (d6c (e:=(o,t)) HSM.o HL0.o HL1.o HL2.o);obtain⟨a0,a1,a2,_⟩:=HN1.o
  go_wp2_with fail
  refine (a4u _ o t _ HO1.o HL2.o HE1.o).mono ?_;rintro e w2 ⟨rfl,hb⟩;have HU2:=qh (HU1.o.below hb);have HO2:=qh (HO1.o.below hb);have HE2:=qh (HE1.o.below hb HE1.o.size);have HN2:=qh (HN1.o.below hb);have HB2:=bt HB1 hb;clear hb HU1 HB1 HN1 HO1 HE1 a0 a1 a2
  cases he:P.entry (o,t)
  .have HD:=qh (show P.a4e (o,t) l=false by unfold P.a4e;rw [he,Bool.false_and,Bool.and_false]);clear he;obtain⟨_,_,_,b0,f0,_⟩:=HN2.o;go_wp2;refine bodyPost_ret (v:=.tuple #[.agg #[.slice none 0 0],.bool false]) (by simp [results,results271,go_sem,b0]) rfl ⟨_,by rw [HD.o],?_,?_⟩
   .rw [HD.o];exact RowO.nil _ _
   .exact HB2.o.setCell (by simp;omega) _
  .have HEN:=qh he;clear he;obtain⟨a0,a1,a2,_⟩:=HN2.o;have HA1:=qh a1;have HA2:=qh a2;clear a1 a2
   go_wp2_with fail
   refine (d3q _ (.slice od o.length oc) l o _ _ HU2.o HSM.o.len HA1.o HO2.o).mono ?_;rintro e w3 ⟨⟨u3,xs,rfl,hacc⟩,hb⟩;have HZ2:=qh HN2.o.2.2.2.2.2;have HN3:=qh (HN2.o.below hb);have HB3:=bt HB2 hb;have HB23:=qh hb;have HE3:=qh (HE2.o.below hb HE2.o.size);have HEB:=qh HE2.o.size;have hdl:=P.b6m o l;have HDL:=qh hdl;obtain⟨ud,uc,rfl⟩:=hacc.form;have HA:=qh hacc;clear hb HN2 HU2 HB2 a0 HA1 HA2 HE2 hacc hdl;obtain⟨a0,a1,a2,_⟩:=HN3.o;have ha2:=(HA.o.keep (b4g w2) ((Below.refl w3.heap.size w3).alloc lZ (.cells #[.slice od o.length oc,.string (S t)] 119)));have HOW:=qh ha2.owns;have HAK:=qh ha2;clear ha2;have HL0':=HL0.o;have HDL':=HDL.o
   go_wp2_with (at_builtin;refine wpList_append_lies _ rfl _ _ 24 rfl w2.heap.size 119 i0 (.agg #[.slice none 0 0,.string ⟨#[]⟩]) 2 40 underlying24 hi hz0 hz1 hz2 rfl dZ (.slice ud (P.del o l).length uc) (P.del o l).length xs rfl HOW.o ⟨w3.heap.size,0,none⟩ 1 1 [.slice od o.length oc,.string (S t)] rfl rfl ?_ ?_ (Nat.zero_lt_one) ?_ ?_ ?_ _ rfl ?_)
   .exact zq24
   .intro y hy;exact zq38
   .unfold maxLen;omega
   .omega
   .have h1:=HB23.o.size;simp;omega
   intro g1 cap1 v3 hown hgr hat hlt3
   have HB4:=qh (show Below w2.heap.size (w3.alloc (.cells #[.slice od o.length oc,.string (S t)] 119)) v3 from
    bZ.grown hgr (by have h1:=HB23.o.size;simp;omega) (λk hk=>(World.ownsRow.lt HAK.o.owns k hk).1))
   have hac:=HA.o.snoc (a:=(o,t)) (cs:=[.slice od o.length oc,.string (S t)]) (v1:=w3) (v2:=w3.alloc (.cells #[.slice od o.length oc,.string (S t)] 119)) (v3:=v3) (g:=g1) (cap:=cap1) (F:=λ_=>False) (b4g w2) bZ (λb hb=>hb.elim) ⟨_,rfl,HO2.o⟩ rfl (bZ.alloc lZ _) hown hgr (by simpa using hat);have hbv:=((HB23.o.trans ((Below.refl w2.heap.size w3).alloc HB23.o.size _)).trans HB4.o);have hrd:=c9c (hac.row (by rw [List.length_append];simp;omega)) hbv;have hlen:(P.del o l++[(o,t)]).length=(P.del o l).length+1:=by simp
   have HRD:=qh hrd
   have HN4:=qh (show IBox w.heap.size (.slice ad l.length cap) (.slice od o.length oc) t v3 from by
    have h:=HN3.o;have hb:=((Below.refl w3.heap.size w3).alloc lZ (.cells #[.slice od o.length oc,.string (S t)] 119));have h2:=h.below hb;obtain⟨q0,q1,q2,q3,q4,q5⟩:=h2;have hz:=HZ2.o;exact⟨(HB4.o.cell (p:=⟨w.heap.size,0,none⟩) (by show w.heap.size<w2.heap.size;omega)).trans q0,(HB4.o.cell (p:=⟨w.heap.size+1,0,none⟩) (by show w.heap.size+1<w2.heap.size;omega)).trans q1,(HB4.o.cell (p:=⟨w.heap.size+1,1,none⟩) (by show w.heap.size+1<w2.heap.size;omega)).trans q2,(HB4.o.cell (p:=⟨w.heap.size+2,0,none⟩) hz).trans q3,(HB4.o.frozen (p:=⟨w.heap.size+2,0,none⟩) hz).trans q4,Nat.lt_of_lt_of_le q5 HB4.o.size⟩)
   have HBV:=qh hbv;have HB5:=qh (HB3.o.trans (((Below.refl w.heap.size w3).alloc HB3.o.size (.cells #[.slice od o.length oc,.string (S t)] 119)).trans (HB4.o.mono (by have:=HZ2.o;omega))));have HE4:=qh (HE3.o.below (((Below.refl w2.heap.size w3).alloc HB23.o.size (.cells #[.slice od o.length oc,.string (S t)] 119)).trans HB4.o) HEB.o);clear hown hgr hat hlt3 hac hbv hrd hlen HN3 HA HOW HAK HB4 HB3 a0 a1 a2 HE3 HO2
   go_wp2_with fail
   refine (a9c _ (P.del o l++[(o,t)]) (P.putF (o,t) false l) _ (by have:=HRD.o;simpa using this) (by rw [List.length_append];simp;omega) ?_ ?_ ?_ (P.put_ne (e:=(o,t)) HDC.o)).mono ?_
   .intro e he
    rcases List.mem_append.1 he with he|he
    .exact HSM.o.outs e (P.b3v he)
    .rw [List.mem_singleton]at he;subst he;exact HL1.o
   .exact P.a7o _ _ (P.b1p HDC.o)
   .intro z;rw [P.a6g,List.mem_append,List.mem_singleton];exact Or.comm
   rintro e w4 ⟨u4,rfl,hI,hb⟩;have HN5:=qh (HN4.o.below hb);have hN4:w.heap.size+2<v3.heap.size:=HN4.o.2.2.2.2.2;have HB6:=bt HB5 hb;have HE5:=qh (HE4.o.below hb HE4.o.size);have hba:=(Below.refl w4.heap.size w4).alloc lZ (.cells #[u4] 26);have HI:=qh hI;obtain⟨u4d,u4c,rfl,_,_⟩:=hI;have HZ4:Hq (v3.heap.size<=w4.heap.size):=⟨hb.size⟩;clear hb HN4 HB5 HE4;have HI2:Hq (Ents _ _ _ (P.putF (o,t) false l)):=⟨HI.o.below a0f hba⟩;have HN6:=qh (HN5.o.below hba);have HB7:=bt HB6 hba;have HE6:=qh (HE5.o.below hba HE5.o.size);have HC4:=qh (show (w4.alloc (.cells #[.slice u4d (P.putF (o,t) false l).length u4c] 26)).cell? ⟨w4.heap.size,0,none⟩=some (.slice u4d (P.putF (o,t) false l).length u4c) by go_simp);clear hba HN5 HB6 HE5
   go_wp2_with fail
   refine (a1e _ (P.putF (o,t) false l) _ (Ents.read HI2.o) HSP.o.texts HE6.o).mono ?_;rintro e w5 ⟨rfl,hb⟩;have HN7:=qh (HN6.o.below hb);have HB8:=bt HB7 hb;have HI3:=qh (HI2.o.below a0f hb);have c4:=(hb.cell (p:=⟨w4.heap.size,0,none⟩) sZ).trans HC4.o;have HZ5:=qh (show w4.heap.size<w5.heap.size by have:=hb.size;simp at this;omega);clear hb HN6 HB7 HI2 HE6 HC4;rw [P.d7e HDC.o HEN.o];obtain⟨_,_,_,b0,f0,_⟩:=HN7.o
   cases hlen:decide ((P.putF (o,t) false l).length<=40)
   .have HD:=qh (show P.a4e (o,t) l=false by unfold P.a4e;rw [HDC.o,HEN.o,hlen];rfl);clear hlen;go_wp2;refine bodyPost_ret (v:=.tuple #[.agg #[.slice none 0 0],.bool false]) (by simp [results,results271,go_sem,b0]) rfl ⟨_,by rw [HD.o],?_,?_⟩
    .rw [HD.o];exact RowO.nil _ _
    .exact HB8.o.setCell (by simp;omega) _
   .have HD:=qh (show P.a4e (o,t) l=true by unfold P.a4e;rw [HDC.o,HEN.o,hlen];rfl);clear hlen;go_wp2;refine bodyPost_ret (v:=.tuple #[.agg #[.slice u4d (P.putF (o,t) false l).length u4c],.bool true]) (by simp [results,results271,go_sem,b0]) rfl ⟨_,by rw [HD.o],?_,?_⟩
    .rw [HD.o]
     show Ents _ _ _ (P.putF (o,t) false l)
     refine b3p (w.heap.size+2) HI3.o λb hb=>?_;have h1:=hb.1;have h2:=hb.2;have h3:=HZ5.o;omega
    .exact HB8.o.setCell (by simp;omega) _
def PBx (W:Nat) (dv x:Value) (t:Str) (u:Value) (v:World):Prop:=
 v.cell? ⟨W,0,none⟩=some dv/\v.cell? ⟨W+1,0,none⟩=some x/\v.cell? ⟨W+1,1,none⟩=some (.string (S t))/\v.cell? ⟨W+2,0,none⟩=some (.slice none 0 0)/\v.cell? ⟨W+3,0,none⟩=some u/\v.frozen? ⟨W+2,0,none⟩=false/\v.frozen? ⟨W+3,0,none⟩=false
theorem PBx.step {dv x u:Value} {t:Str} {v:World} (h:PBx W dv x t u v) (hb:Below (W+4) v v'):PBx W dv x t u v':=by
 obtain⟨h1,h2,h3,h4,h5,h6,h7⟩:=h
 exact⟨(hb.cell (p:=⟨W,0,none⟩) (by show W<W+4;omega)).trans h1,(hb.cell (p:=⟨W+1,0,none⟩) (by show W+1<W+4;omega)).trans h2,(hb.cell (p:=⟨W+1,1,none⟩) (by show W+1<W+4;omega)).trans h3,(hb.cell (p:=⟨W+2,0,none⟩) (by show W+2<W+4;omega)).trans h4,(hb.cell (p:=⟨W+3,0,none⟩) (by show W+3<W+4;omega)).trans h5,
  (hb.frozen (p:=⟨W+2,0,none⟩) (by show W+2<W+4;omega)).trans h6,(hb.frozen (p:=⟨W+3,0,none⟩) (by show W+3<W+4;omega)).trans h7⟩
theorem PBx.put {dv x u u':Value} {t:Str} {v:World} (h:PBx W dv x t u v):PBx W dv x t u' (v.setCell ⟨W+3,0,none⟩ u'):=by
 obtain⟨h1,h2,h3,h4,h5,h6,h7⟩:=h;have e:∀b o,b≠W+3->(v.setCell ⟨W+3,0,none⟩ u').cell? ⟨b,o,none⟩=v.cell? ⟨b,o,none⟩:=λb o hb=>World.cell?_setCell_other _ _ _ _ (by intro e;injection e;omega);exact⟨(e _ _ oZ).trans h1,(e _ _ oZ).trans h2,(e _ _ oZ).trans h3,(e _ _ oZ).trans h4,World.cell?_setCell_same _ _ _ h5,by simpa using h6,by simpa using h7⟩
def OBx (C:Nat) (y:Value) (t:Str) (v:World):Prop:=v.cell? ⟨C,0,none⟩=some y/\v.cell? ⟨C,1,none⟩=some (.string (S t))/\C<v.heap.size
theorem OBx.step {C B:Nat} {y:Value} {t:Str} {v:World} (h:OBx C y t v) (hb:Below B v v') (hC:C<B):OBx C y t v':=
 ⟨(hb.cell (p:=⟨C,0,none⟩) hC).trans h.1,(hb.cell (p:=⟨C,1,none⟩) hC).trans h.2.1,Nat.lt_of_lt_of_le h.2.2 hb.size⟩
def RP (put:Bool) (F:Blk):Blk:=λb=>put=true/\F b
structure PFix (W C B1:Nat) (F:Blk):Prop where
 b1:W+4<=B1
 c0:W+4<=C
 c1:C<B1
 f:∀b,F b->W+4<=b/\b<B1/\b≠C
def PInv (w:World) (dv x:Value) (o:List Int) (t:Str) (C:Nat) (y:Value) (F:Blk) (B1:Nat) (put:Bool) (row:P.Dic) (u:Value) (xs:List Value) (v:World):Prop:=
 PBx w.heap.size dv x t u v/\OBx C y t v/\(put=false->Ints v F y o)/\AccR 119 2 entE B1 (RP put F) v u row xs/\Bl w v
section
variable {w v v1 v2 v3:World} {dv x y u:Value} {o:List Int} {t:Str} {C B1:Nat} {F:Blk} {put put':Bool} {row:P.Dic} {xs:List Value}
theorem PInv.size (h:PInv w dv x o t C y F B1 put row u xs v):B1<=v.heap.size:=h.2.2.2.1.size
theorem PInv.below (h:PInv w dv x o t C y F B1 put row u xs v) (hf:PFix w.heap.size C B1 F) (hb:Bl v v1):PInv w dv x o t C y F B1 put row u xs v1:=by
 have hz:=h.size;have h1:=hf.b1;have h2:=hf.c1;obtain⟨p1,p2,p3,p4,p5⟩:=h;exact⟨p1.step (hb.mono oZ),p2.step hb oZ,λe=>(p3 e).below a1l hb,p4.keep a0f hb,p5.trans (hb.mono oZ)⟩
theorem PInv.done (h:PInv w dv x o t C y F B1 put row u xs v) (hf:PFix w.heap.size C B1 F) (z:Value) (hl:row.length<=2^30):Ents (v.setCell ⟨w.heap.size+2,0,none⟩ z) (Bet w.heap.size (v.setCell ⟨w.heap.size+2,0,none⟩ z).heap.size) u row/\Bl w (v.setCell ⟨w.heap.size+2,0,none⟩ z):=by
 have h1:=hf.b1;refine⟨b3p (w.heap.size+2) (h.2.2.2.1.row hl) λb hb=>?_,h.2.2.2.2.setCell sZ _⟩
 rcases hb.1 with h2|h2
 .have:=hb.2;omega
 .have:=(hf.f b h2.2).1;have:=hb.2;omega
theorem PInv.app (h:PInv w dv x o t C y F B1 put row u xs v) (hf:PFix w.heap.size C B1 F) {F':Blk} {cs:List Value} {a:P.Ent} {cap:Nat} (hb1:Bl v v1) (hF':∀b,F' b->(v.heap.size<=b\/(RP put' F b/\¬RP put F b))/\b<v1.heap.size) (hpp:put=true->put'=true)
 (ha:entE v1 F' cs a) (hw:cs.length=2) (hb2:Bl v1 v2)
 (hown:v3.ownsRow B1 119 2 (.slice (some ⟨g,0,none⟩) (row.length+1) cap) (row.length+1) (xs++cs)) (hgr:v2.grownBy v3 u.ownBlock) (hat:u.ownBlock=some g\/g=v2.heap.size) :
 PInv w dv x o t C y F B1 put' (row++[a]) (.slice (some ⟨g,0,none⟩) (row.length+1) cap) (xs++cs) (v3.setCell ⟨w.heap.size+3,0,none⟩ (.slice (some ⟨g,0,none⟩) (row.length+1) cap)):=by
 have hz:=h.size
 have f1:=hf.b1;have f2:=hf.c1;have f3:=hf.c0
 obtain⟨p1,p2,p3,p4,p5⟩:=h
 have hRb:∀q b,RP q F b->b<B1:=λq b hb=>(hf.f b hb.2).2.1
 have hac:=p4.snoc (R':=RP put' F) (a:=a) a0f hb1 hF' (λb hb=>⟨hpp hb.1,hb.2⟩) (hRb put') ha hw hb2 hown hgr hat
 have hz1:=hb1.size;have hz2:=hb2.size
 have hb3:Below B1 v2 v3:=bZ.grown hgr oZ (λk hk=>(World.ownsRow.lt p4.owns k hk).1)
 have hbv:Below B1 v v3:=(hb1.mono hz).trans ((hb2.mono oZ).trans hb3)
 have hc:Chg (λb=>b=w.heap.size+3) v3 (v3.setCell ⟨w.heap.size+3,0,none⟩ (.slice (some ⟨g,0,none⟩) (row.length+1) cap)):=(Chg.refl (λb=>b=w.heap.size+3) v3).setCell (p:=⟨w.heap.size+3,0,none⟩) rfl _
 refine⟨(p1.step (hbv.mono f1)).put,?_,λe=>?_,?_,(p5.trans (hbv.mono oZ)).setCell sZ _⟩
 .have h2:=p2.step hbv f2;exact⟨(hc.cell (p:=⟨C,0,none⟩) h2.2.2 (by show C≠_;omega)).trans h2.1,(hc.cell (p:=⟨C,1,none⟩) h2.2.2 (by show C≠_;omega)).trans h2.2.1,by simpa [World.setCell] using h2.2.2⟩
 .have e0:put=false:=by
   cases hp:put with
   |false=>rfl
   |true=>rw [hpp hp]at e;cases e
  have q:=p3 e0;have q3:Ints v3 F y o:=q.keep a1l ⟨hbv.size,λb hb=>hbv.block b (hf.f b hb).2.1⟩;exact q3.a0b a1l hc (λb hb e=>by have:=(hf.f b hb).1;omega)
 .exact hac.a0b a0f hc (λb hb=>⟨by rw [hb];omega,λhr=>by have:=(hf.f b hr.2).1;rw [hb]at this;omega⟩)
end
def KR3 (W:Nat) (x:Value) (t:Str) (v:World):Prop:=v.cell? ⟨W+1,0,none⟩=some x/\v.cell? ⟨W+1,1,none⟩=some (.string (S t))
theorem KR3.step {x:Value} {t:Str} {v:World} (h:KR3 W x t v) (hb:Below (W+4) v v'):KR3 W x t v':=
 ⟨(hb.cell (p:=⟨W+1,0,none⟩) (by show W+1<W+4;omega)).trans h.1,(hb.cell (p:=⟨W+1,1,none⟩) (by show W+1<W+4;omega)).trans h.2⟩
def KR7 (W:Nat) (dv x:Value) (g p:Nat) (xe:Value) (v:World):Prop:=v.cell? ⟨W,0,none⟩=some dv/\v.cell? ⟨W+1,0,none⟩=some x/\v.cell? ⟨g,p,none⟩=some xe/\g<W
theorem KR7.step {dv x:Value} {xe:Value} {v:World} (h:KR7 W dv x g p xe v) (hb:Below (W+4) v v'):KR7 W dv x g p xe v':=by
 obtain⟨h1,h2,h3,h4⟩:=h;exact⟨(hb.cell (p:=⟨W,0,none⟩) (by show W<W+4;omega)).trans h1,(hb.cell (p:=⟨W+1,0,none⟩) (by show W+1<W+4;omega)).trans h2,(hb.cell (p:=⟨g,p,none⟩) (by show g<W+4;omega)).trans h3,h4⟩
def KRP (W:Nat) (dv u:Value) (g p:Nat) (x:Value) (et:Str) (v:World):Prop:=
 v.cell? ⟨W,0,none⟩=some dv/\v.cell? ⟨W+3,0,none⟩=some u/\v.cell? ⟨g,p,none⟩=some x/\v.cell? ⟨g,p+1,none⟩=some (.string (S et))/\v.frozen? ⟨W+3,0,none⟩=false/\g<W
theorem KRP.step {dv u:Value} {x:Value} {et:Str} {v:World} (h:KRP W dv u g p x et v) (hb:Below (W+4) v v'):KRP W dv u g p x et v':=by
 obtain⟨h1,h2,h3,h4,h5,h6⟩:=h
 exact⟨(hb.cell (p:=⟨W,0,none⟩) (by show W<W+4;omega)).trans h1,(hb.cell (p:=⟨W+3,0,none⟩) (by show W+3<W+4;omega)).trans h2,(hb.cell (p:=⟨g,p,none⟩) (by show g<W+4;omega)).trans h3,
  (hb.cell (p:=⟨g,p+1,none⟩) (by show g<W+4;omega)).trans h4,(hb.frozen (p:=⟨W+3,0,none⟩) (by show W+3<W+4;omega)).trans h5,h6⟩
end Go.Proofs.YtggfdnopminemaaGreatDoor
