/- Sessions: where an. -/
import Derived.Test.YtggfdnopminemaaGreatDoorScrS9
set_option linter.all false
namespace Go.Proofs.YtggfdnopminemaaGreatDoor
open Go.Proofs.Tryz
open Go Go.RowKit
set_option maxHeartbeats 8000000
set_option maxRecDepth 100000
variable {X:Blk} {ns:List Int} {B j m:Nat} {o1 o2 o3:Option Nat} {D:P.Dic} {sc:Str} {b:UInt8} {nu nus u us:Go.Value} {v v' w wr:Go.World}
theorem Box1.set1 {b:Nat} {x y:Value} (h0:v.cell? ⟨b,0,none⟩=some x) (hz:b<v.heap.size):Box1 b y (v.setCell ⟨b,0,none⟩ y):=⟨by go_simp,by simpa [World.setCell] using hz⟩
def DfS (B:Nat) (u us:Value) (sc:Str) (v:World):Prop:=v.cell? ⟨B,0,none⟩=some u/\v.cell? ⟨B,1,none⟩=some us/\v.cell? ⟨B,2,none⟩=some (.string (S sc))/\B<v.heap.size
theorem DfS.a0b (h:DfS B u us sc v) (hc:Chg X v v') (hX:¬X B):DfS B u us sc v':=
 ⟨(hc.cell (p:=⟨B,0,none⟩) h.2.2.2 hX).trans h.1,(hc.cell (p:=⟨B,1,none⟩) h.2.2.2 hX).trans h.2.1,(hc.cell (p:=⟨B,2,none⟩) h.2.2.2 hX).trans h.2.2.1,Nat.lt_of_lt_of_le h.2.2.2 hc.size⟩
structure DfSt (wr:World) (B:Nat) (u us:Value) (sc:Str) (o1 o2 o3:Option Nat) (v:World):Prop where
 s:DfS B u us sc v
 hB:B<wr.heap.size
 bw:Bl wr v
 d:∀b,o1=some b->(wr.heap.size<=b/\b<v.heap.size)/\v.cell? ⟨b,0,none⟩=some (.slice none 0 0)/\v.frozen? ⟨b,0,none⟩=false
 t:∀b,o2=some b->wr.heap.size<=b/\TBx b (.slice none 0 0) [] v
 e:∀b,o3=some b->wr.heap.size<=b/\EBx b v
 n12:∀a b,o1=some a->o2=some b->a≠b
 n13:∀a b,o1=some a->o3=some b->a≠b
 n23:∀a b,o2=some a->o3=some b->a≠b
theorem DfSt.below (h:DfSt wr B u us sc o1 o2 o3 v) (hb:Bl v v'):DfSt wr B u us sc o1 o2 o3 v':=
 ⟨h.s.a0b (Below.chg hb λ_=>False) (λh=>h),h.hB,h.bw.trans (hb.mono h.bw.size),
  λb e=>by obtain⟨h1,h2,h3⟩:=h.d b e;exact⟨⟨h1.1,Nat.lt_of_lt_of_le h1.2 hb.size⟩,(hb.cell (p:=⟨b,0,none⟩) h1.2).trans h2,((Below.chg hb λ_=>False).frozen (p:=⟨b,0,none⟩) h1.2 (λh=>h)).trans h3⟩,
  λb e=>⟨(h.t b e).1,(h.t b e).2.below hb⟩,λb e=>⟨(h.e b e).1,(h.e b e).2.below hb⟩,h.n12,h.n13,h.n23⟩
theorem DfSt.a5s (h:DfSt wr B u us sc none o2 o3 v):DfSt wr B u us sc (some v.heap.size) o2 o3 (v.alloc (.cells #[.slice none 0 0] 26)):=by
 have hb:=(Below.refl v.heap.size v).alloc lZ (.cells #[.slice none 0 0] 26);have g:=h.below hb;refine⟨g.s,g.hB,g.bw,λb e=>?_,g.t,g.e,λa b e1 e2=>?_,λa b e1 e2=>?_,g.n23⟩
 .injection e with e;subst e;exact⟨⟨h.bw.size,by simp⟩,by go_simp,by go_simp⟩
 .injection e1 with e1;have:=(h.t b e2).2.1;omega
 .injection e1 with e1;have:=(h.e b e2).2.1;omega
theorem DfSt.a5u (h:DfSt wr B u us sc o1 none o3 v):DfSt wr B u us sc o1 (some v.heap.size) o3 (v.alloc (.cells #[.slice none 0 0,.string (S [])] 35)):=by
 have hb:=(Below.refl v.heap.size v).alloc lZ (.cells #[.slice none 0 0,.string (S [])] 35);have g:=h.below hb;refine⟨g.s,g.hB,g.bw,g.d,λb e=>?_,g.e,λa b e1 e2=>?_,g.n13,λa b e1 e2=>?_⟩
 .injection e with e;subst e;exact⟨h.bw.size,TBx.new _ _ _⟩
 .injection e2 with e2;have:=(h.d a e1).1.2;omega
 .injection e1 with e1;have:=(h.e b e2).2.1;omega
theorem DfSt.b2y (h:DfSt wr B u us sc o1 o2 none v):DfSt wr B u us sc o1 o2 (some v.heap.size) (v.alloc (.cells #[.int .i64 0,.string (S [])] 55)):=by
 have hb:=(Below.refl v.heap.size v).alloc lZ (.cells #[.int .i64 0,.string (S [])] 55);have g:=h.below hb;refine⟨g.s,g.hB,g.bw,g.d,g.t,λb e=>?_,g.n12,λa b e1 e2=>?_,λa b e1 e2=>?_⟩
 .injection e with e;subst e;exact⟨h.bw.size,EBx.new _⟩
 .injection e2 with e2;have:=(h.d a e1).1.2;omega
 .injection e2 with e2;have:=(h.t a e1).2.1;omega
def DfR (wr:World) (o1 o2 o3:Option Nat) (nu nus:Value) (D:P.Dic) (ns:List Int) (v:World):Prop:=
 ∃F G:Blk,Ents v F nu D/\Ints v G nus ns/\(∀b,F b->(wr.heap.size<=b/\b<v.heap.size)/\o1≠some b/\o2≠some b/\o3≠some b)/\(∀b,G b->(wr.heap.size<=b/\b<v.heap.size)/\o1≠some b/\o2≠some b/\o3≠some b)/\∀b,F b->¬G b
theorem DfR.a0b (h:DfR wr o1 o2 o3 nu nus D ns v) (hc:Chg X v v') (hX:∀b,X b->b<v.heap.size->o1=some b\/o2=some b\/o3=some b):DfR wr o1 o2 o3 nu nus D ns v':=by
 obtain⟨F,G,h1,h2,h3,h4,h5⟩:=h;have hz:=hc.size;refine⟨F,G,h1.a0b a0f hc (λb hb hx=>?_),h2.a0b a1l hc (λb hb hx=>?_),λb hb=>⟨⟨(h3 b hb).1.1,Nat.lt_of_lt_of_le (h3 b hb).1.2 hz⟩,(h3 b hb).2⟩,λb hb=>⟨⟨(h4 b hb).1.1,Nat.lt_of_lt_of_le (h4 b hb).1.2 hz⟩,(h4 b hb).2⟩,h5⟩
 .obtain⟨g1,g2,g3,g4⟩:=h3 b hb
  rcases hX b hx g1.2 with e|e|e
  .exact g2 e
  .exact g3 e
  .exact g4 e
 .obtain⟨g1,g2,g3,g4⟩:=h4 b hb
  rcases hX b hx g1.2 with e|e|e
  .exact g2 e
  .exact g3 e
  .exact g4 e
theorem DfR.alloc {p1 p2 p3:Option Nat} (h:DfR wr o1 o2 o3 nu nus D ns v) (o:Obj) (h1:p1=o1\/p1=some v.heap.size) (h2:p2=o2\/p2=some v.heap.size) (h3:p3=o3\/p3=some v.heap.size):DfR wr p1 p2 p3 nu nus D ns (v.alloc o):=by
 obtain⟨F,G,k1,k2,k3,k4,k5⟩:=h.a0b (X:=λ_=>False) ((Chg.refl _ _).alloc o) (λ_ h=>h.elim);obtain⟨F0,G0,g1,g2,g3,g4,g5⟩:=h;have hb:=(Below.refl v.heap.size v).alloc lZ o
 have key:∀b,b<v.heap.size->o1≠some b->o2≠some b->o3≠some b->p1≠some b/\p2≠some b/\p3≠some b:=by
  intro b hb e1 e2 e3;refine⟨?_,?_,?_⟩
  .rcases h1 with rfl|rfl
   .exact e1
   .intro e;injection e with e;omega
  .rcases h2 with rfl|rfl
   .exact e2
   .intro e;injection e with e;omega
  .rcases h3 with rfl|rfl
   .exact e3
   .intro e;injection e with e;omega
 exact⟨F0,G0,g1.below a0f hb,g2.below a1l hb,λb q=>⟨⟨(g3 b q).1.1,Nat.lt_of_lt_of_le (g3 b q).1.2 hb.size⟩,key b (g3 b q).1.2 (g3 b q).2.1 (g3 b q).2.2.1 (g3 b q).2.2.2⟩,λb q=>⟨⟨(g4 b q).1.1,Nat.lt_of_lt_of_le (g4 b q).1.2 hb.size⟩,key b (g4 b q).1.2 (g4 b q).2.1 (g4 b q).2.2.1 (g4 b q).2.2.2⟩,g5⟩
theorem DfR.called (h:DfSt wr B u us sc o1 o2 o3 v) (h1:Ents v' (Bet v.heap.size m) nu D) (h2:OwnK m v' nus ns) (h3:v.heap.size<=m) (h4:m<=v'.heap.size) (hl:ns.length<=2^30):DfR wr o1 o2 o3 nu nus D ns v':=by
 have key:∀b,v.heap.size<=b->o1≠some b/\o2≠some b/\o3≠some b:=λb _=>
  ⟨λe=>by have:=(h.d b e).1.2;omega,λe=>by have:=(h.t b e).2.1;omega,λe=>by have:=(h.e b e).2.1;omega⟩
 have hw:=h.bw.size;refine⟨Bet v.heap.size m,BetO m v'.heap.size nus,h1,a7b h2 hl,λb q=>?_,λb q=>?_,λb q g=>?_⟩
 .have e1:=q.1;have e2:=q.2;exact⟨⟨by omega,by omega⟩,key b e1⟩
 .have e1:=q.1;exact⟨⟨by omega,e1.2⟩,key b oZ⟩
 .have e1:=q.2;have e2:=g.1.1;omega
theorem DfR.low (h:DfR wr o1 o2 o3 nu nus D ns v) (hc:Chg X v v') (hX:∀b,X b->b<wr.heap.size):DfR wr o1 o2 o3 nu nus D ns v':=by
 obtain⟨F,G,h1,h2,h3,h4,h5⟩:=h;have hz:=hc.size;refine⟨F,G,h1.a0b a0f hc (λb hb hx=>?_),h2.a0b a1l hc (λb hb hx=>?_),λb hb=>⟨⟨(h3 b hb).1.1,Nat.lt_of_lt_of_le (h3 b hb).1.2 hz⟩,(h3 b hb).2⟩,λb hb=>⟨⟨(h4 b hb).1.1,Nat.lt_of_lt_of_le (h4 b hb).1.2 hz⟩,(h4 b hb).2⟩,h5⟩
 .have g1:=(h3 b hb).1.1;have g2:=hX b hx;omega
 .have g1:=(h4 b hb).1.1;have g2:=hX b hx;omega
theorem DfR.below (h:DfR wr o1 o2 o3 nu nus D ns v) (hb:Bl v v'):DfR wr o1 o2 o3 nu nus D ns v':=h.low (Below.chg hb λ_=>False) λ_ h=>h.elim
theorem DfR.dic (h:DfR wr o1 o2 o3 nu nus D ns v):EntR v nu D:=by obtain⟨_,_,h1,_⟩:=h;exact Ents.read h1
theorem DfR.str (h:DfR wr o1 o2 o3 nu nus D ns v):IntR v nus ns:=by obtain⟨_,_,_,h2,_⟩:=h;exact Ints.read h2
theorem DfR.freshE (h:DfR wr o1 o2 o3 nu nus D ns v) (hw:w.heap.size<=wr.heap.size):∃F:Blk,Ents v F nu D/\∀b,F b->w.heap.size<=b:=by
 obtain⟨F,_,h1,_,h3,_⟩:=h;exact⟨F,h1,λb hb=>Nat.le_trans hw (h3 b hb).1.1⟩
theorem DfR.freshI (h:DfR wr o1 o2 o3 nu nus D ns v) (hw:w.heap.size<=wr.heap.size):∃F:Blk,Ints v F nus ns/\∀b,F b->w.heap.size<=b:=by
 obtain⟨_,G,_,h2,_,h4,_⟩:=h;exact⟨G,h2,λb hb=>Nat.le_trans hw (h4 b hb).1.1⟩
theorem DfR.rows {lo:Nat} (h:DfR wr o1 o2 o3 nu nus D ns v) (hlo:lo<=wr.heap.size) (hB:B<wr.heap.size):a3b lo B v nu nus D ns:=by
 obtain⟨F,G,h1,h2,h3,h4,h5⟩:=h;exact⟨F,G,h1,h2,λb hb=>by have:=(h3 b hb).1;exact⟨by omega,this.2,by omega⟩,λb hb=>by have:=(h4 b hb).1;exact⟨by omega,this.2,by omega⟩,h5⟩
namespace P
theorem b4n {d:Dic} {t:Tr} {e:Ent} (h:(a3j d t e).2=true):a4g (a3j d t e).1.2=true:=by
 unfold a3j at h⊢
 split
 .rename_i hc
  simp only [Bool.and_eq_true]at hc;exact b2l (a2l hc.1) (a5n _ _)
 .rename_i hc;rw [if_neg hc]at h;cases h
theorem b3k (d:Dic) (t:Tr) (e:Ent):(a3j d t e).1.1.2.1.length<=t.1.length:=by
 unfold a3j
 split
 .exact Nat.le_refl _
 .exact Nat.zero_le _
theorem c3r {s:Ses} {more:Bs} (h:a1u (head 32 more)=none):a1h s more=(s,none):=by unfold a1h;rw [h]
theorem c4o {s:Ses} {more:Bs} (h:(head 32 more).length=more.length):a1h s more=(s,none):=by
 unfold a1h
 split
 .rfl
 .rw [if_pos h]
theorem c6g {s:Ses} {more:Bs} {o:List Int} (h:a1u (head 32 more)=some o) (h2:(a3j s.1 s.2 (o,more.drop ((head 32 more).length+1))).2=false):a1h s more=(s,none):=by
 unfold a1h;rw [h];simp only
 split
 .rfl
 .rw [if_neg (by rw [h2];decide)]
theorem c7e {s:Ses} {more:Bs} {o:List Int} {r:(Dic×Tr)×Edit} (h:a1u (head 32 more)=some o) (h1:(head 32 more).length≠more.length) (h2:a3j s.1 s.2 (o,more.drop ((head 32 more).length+1))=(r,true)):a1h s more=(r.1,some (fmtE r.2)):=by
 unfold a1h;rw [h];simp only;rw [if_neg h1,h2,if_pos rfl]
theorem d5z {l:List Bs} (h:0<l.length):l[0]=l.headD []:=by
 cases l with
 |nil=>simp at h
 |cons x r=>rfl
theorem c9t {c:UInt8} {s:Bs} (h:0<(split c s).length):(split c s)[0]=head c s:=d5z h
end P
theorem c8d {a:UInt8} (h:a≠b):(((a.toNat:Nat):Int)==((b.toNat:Nat):Int))=false:=by
 rw [beq_eq_false_iff_ne];intro e;exact h (UInt8.toNat_inj.1 oZ)
theorem d3m (hj:j<23):([35,83,84,75,80,87,72,82,65,79,42,69,85,70,82,80,66,76,71,84,83,68,90]:List UInt8)[j]'(by simpa using hj)=P.lab j:=by
 unfold P.lab P.labels;rw [List.getD_eq_getElem?_getD,List.getElem?_eq_getElem (by simpa using hj)];rfl
theorem e2b (hj:j<23) (h:P.lab j=b):((((([35,83,84,75,80,87,72,82,65,79,42,69,85,70,82,80,66,76,71,84,83,68,90]:List UInt8)[j]'(by simpa using hj)).toNat:Nat):Int) != ((b.toNat:Nat):Int))=false:=by
 rw [d3m hj,h];simp
theorem e3w (hj:j<23) (h:P.lab j≠b):((((([35,83,84,75,80,87,72,82,65,79,42,69,85,70,82,80,66,76,71,84,83,68,90]:List UInt8)[j]'(by simpa using hj)).toNat:Nat):Int) != ((b.toNat:Nat):Int))=true:=by
 rw [d3m hj]
 show (!_)=true
 rw [c8d h];rfl
theorem e1r {k:Nat} (hm:m<2^k) (hk:k<=22):bits .or .i64 (m:Int) ((2^k:Nat):Int)=((m+2^k:Nat):Int):=by
 have h23:m<2^23:=Nat.lt_of_lt_of_le hm (Nat.pow_le_pow_right dZ oZ);rw [e0h h23 hk (Nat.testBit_lt_two_pow hm)];simp
theorem a9r (t:Str) (w:World) (ht:t.length<=2^40) :
 Cz 144 #[.string (S t)] w λe w'=>e=.returned (.tuple #[.int .i64 ((P.loose t).1:Int),.bool (P.loose t).2])/\Bl w w':=by
 go_enter func144,ntmps144
 go_wp2
 go_loopw [4,5,6,10] (λs nx dh i wr=>∃(k:Nat) (q:P.LSt),k<=t.length/\i=.int .i64 k/\s=.int .i64 (q.1:Int)/\nx=.int .i64 (q.2.1:Int)/\dh=.bool q.2.2/\P.LInv q/\P.a3c t (0,0,false)=P.a3c (t.drop k) q/\Bl w wr) (λ_ _ _ i _=>t.length-(intOf i).toNat)
 case atStart=>exact⟨0,(0,0,false),Nat.zero_le _,rfl,rfl,rfl,rfl,⟨by decide,by decide⟩,by rw [List.drop_zero],Below.refl _ _⟩
 case round=>
  obtain⟨k,⟨sn,nx,dh⟩,hk,rfl,rfl,rfl,rfl,hinv,hrun,hbel⟩:=hrel;have HI:=qh hinv;have HR:=qh hrun;have HB:=qh hbel;have hnx:nx<=23:=hinv.2;clear hinv hrun hbel
  by_cases hlt:k<t.length
  .have i1:(k:Int)<(t.length:Int):=by omega
   by_cases hd:t[k]=45
   .exact zq22
   .have f1:(((t[k].toNat:Nat):Int)==45)=false:=c8d (b:=45) hd;have HD:=qh hd;clear hd;go_wp2
    go_loopw [5] (λx wr=>∃j:Nat,x=.int .i64 (j:Int)/\nx<=j/\j<=23/\P.keyOf t[k] j=P.keyOf t[k] nx/\Bl w wr) (λx _=>23-(intOf x).toNat)
    case atStart=>exact⟨nx,rfl,Nat.le_refl _,hnx,rfl,HB.o⟩
    case round=>
     obtain⟨j,rfl,hj0,hj,hkey,hbel⟩:=hrel;have HK:=qh hkey;have HB1:=qh hbel;clear hkey hbel
     by_cases hj23:j<23
     .have i2:(j:Int)<23:=by omega
      by_cases hl:P.lab j=t[k]
      .refine zm61 ?_;intro f2 e1 HKJ e2;have i3:¬23<=(j:Int):=by omega
       exact zq39
      .exact zq114
     .have i2:¬(j:Int)<23:=by omega
      have hj2:j=23:=by omega
      subst hj2;have i3:(23:Int)<=((23:Nat):Int):=by omega
      exact zq102
  .exact zq60
theorem d4e (t:Str) (w:World) (ht:t.length<=2^40) :
 Cz 232 #[.string (S t)] w λe w'=>e=.returned (.tuple #[.int .i64 ((P.loose t).1:Int),.bool (P.loose t).2])/\Bl w w':=by
 go_enter func232,ntmps232
 go_wp2
 go_loopw [4,5,6,7] (λs nx dh i wr=>∃(k:Nat) (q:P.LSt),k<=t.length/\i=.int .i64 k/\s=.int .i64 (q.1:Int)/\nx=.int .i64 (q.2.1:Int)/\dh=.bool q.2.2/\P.LInv q/\P.a3c t (0,0,false)=P.a3c (t.drop k) q/\Bl w wr) (λ_ _ _ i _=>t.length-(intOf i).toNat)
 case atStart=>exact⟨0,(0,0,false),Nat.zero_le _,rfl,rfl,rfl,rfl,⟨by decide,by decide⟩,by rw [List.drop_zero],Below.refl _ _⟩
 case round=>
  obtain⟨k,⟨sn,nx,dh⟩,hk,rfl,rfl,rfl,rfl,hinv,hrun,hbel⟩:=hrel;have HI:=qh hinv;have HR:=qh hrun;have HB:=qh hbel;have hnx:nx<=23:=hinv.2;clear hinv hrun hbel
  by_cases hlt:k<t.length
  .have i1:(k:Int)<(t.length:Int):=by omega
   by_cases hd:t[k]=45
   .exact zq22
   .have f1:(((t[k].toNat:Nat):Int)==45)=false:=c8d (b:=45) hd;have HD:=qh hd;clear hd;go_wp2
    go_loopw [8] (λx wr=>∃j:Nat,x=.int .i64 (j:Int)/\nx<=j/\j<=23/\P.keyOf t[k] j=P.keyOf t[k] nx/\Bl w wr) (λx _=>23-(intOf x).toNat)
    case atStart=>exact⟨nx,rfl,Nat.le_refl _,hnx,rfl,HB.o⟩
    case round=>
     obtain⟨j,rfl,hj0,hj,hkey,hbel⟩:=hrel;have HK:=qh hkey;have HB1:=qh hbel;clear hkey hbel
     by_cases hj23:j<23
     .have i2:(j:Int)<23:=by omega
      by_cases hl:P.lab j=t[k]
      .refine zm61 ?_;intro f2 e1 HKJ e2;have i3:((j:Int)==23)=false:=by rw [beq_eq_false_iff_ne];omega
       have E6:IntKind.u64.wrap (j:Int)=(j:Int):=by simp [IntKind.wrap,IntKind.bits,IntKind.signed];omega
       exact zq39
      .exact zq114
     .have i2:¬(j:Int)<23:=by omega
      have hj2:j=23:=by omega
      subst hj2;have i3:(((23:Nat):Int)==23)=true:=rfl;exact zq102
  .exact zq60
theorem b2m (w:World) :
 Cz 23 #[.int .i64 0] w λe w'=>e=.returned (.tuple #[.string (S []),.bool false])/\w=w':=by
 go_enter func23,ntmps23
 go_wp2_with fail
 refine (a5e _ _).mono ?_
 rintro e w0 ⟨rfl,rfl⟩
 rw [show P.a0q 0=false from by decide]
 go_wp2
 go_ret2
 exact⟨rfl,rfl⟩
def c7b (r:Nat×Bool) (w:World) (e:Ending) (w':World):Prop:=e=.returned (.tuple #[.int .i64 (r.1:Int),.bool r.2])/\Bl w w'
theorem a8s (t:Str) (w:World) (ht:t.length<=2^40) :
 Cz 138 #[.string (S t)] w (c7b (P.parse t) w):=by
 have HL:=qh (P.a9i (t:=t));have HNO:=qh (P.c2f (t:=t))
 have HN1:=qh (P.c3o (t:=t));have HN2:=qh (P.c3e (t:=t));have HY:=qh (P.c5j (t:=t))
 go_enter func138,ntmps138
 go_wp2_with fail
 refine (a9r t _ ht).mono ?_
 rintro e w1 ⟨rfl,hb⟩
 have HB1:=qh hb
 clear hb
 cases hok:(P.loose t).2
 .have HP:=qh (HN1.o hok);rw [HNO.o hok];clear hok
  go_wp2_with fail
  refine (b2m _).mono ?_;rintro e w2 ⟨rfl,rfl⟩;go_wp2;go_ret2;exact⟨by rw [HP.o];rfl,HB1.o⟩
 .have HST:=qh (HL.o hok)
  go_wp2_with fail
  refine (a3i (P.loose t).1 _ HST.o).mono ?_;rintro e w2 ⟨rfl,hb⟩;have HB2:=bt HB1 hb;clear hb
  by_cases he:P.fmt ((P.loose t).1:Int)=t
  .have HP:=qh (HY.o hok he);rw [he];clear hok he;go_wp2;go_ret2;exact⟨by rw [HP.o];rfl,HB2.o⟩
  .exact zq143
theorem b6k (t:Str) (w:World) (ht:t.length<=2^40) :
 Cz 175 #[.string (S t)] w (c7b (P.loose t) w):=by
 have HNO:=qh (P.c2f (t:=t))
 go_enter func175,ntmps175
 go_wp2_with fail
 refine (d4e t _ ht).mono ?_
 rintro e w1 ⟨rfl,hb⟩
 have HB1:=qh hb
 clear hb
 cases hok:(P.loose t).2
 .have HP:=qh (HNO.o hok);exact e2u
 .have HP:=qh hok;exact e2u
theorem a8q (t:Str) (w:World) (ht:t.length<=2^40) :
 Cz 167 #[.string (S t)] w (c7b (P.parse t) w):=by
 have HN1:=qh (P.c3o (t:=t));have HN2:=qh (P.c3e (t:=t));have HY:=qh (P.c5j (t:=t));have HLT:=qh (P.b5u t)
 go_enter func167,ntmps167
 go_wp2_with fail
 refine (d4e t _ ht).mono ?_
 rintro e w1 ⟨rfl,hb⟩
 have HB1:=qh hb
 clear hb
 cases hok:(P.loose t).2
 .have HP:=qh (HN1.o hok);exact e2u
 .go_wp2_with fail
  refine (b0g (P.loose t).1 _ HLT.o).mono ?_;rintro e w2 ⟨rfl,hb⟩;have HB2:=bt HB1 hb;clear hb
  by_cases he:P.fmt ((P.loose t).1:Int)=t
  .have HP:=qh (HY.o hok he);have f1:(P.fmt ((P.loose t).1:Int)==t)=true:=by simpa using he
   clear hok;go_wp2;go_ret2;exact⟨by rw [HP.o];rfl,HB2.o⟩
  .exact zq143
theorem d2y (s:Str) (c:UInt8):Lib.splitB (S [c]) 0 (Lib.countB (S s) (S [c])) (S s)=(P.split c s).map S:=by
 have h1:=Lib.splitB_data (S [c]) 0 (Lib.countB (S s) (S [c])) (S s);have h2:Lib.splitK [c] 0 (Lib.countB (S s) (S [c])) s=P.split c s:=P.b6u c s.length s lZ;rw [S_dataList,S_dataList,h2]at h1;rw [<-h1,List.map_map]
 conv=>lhs;rw [<-List.map_id (Lib.splitB (S [c]) 0 (Lib.countB (S s) (S [c])) (S s))]
 rfl
theorem e2i (s:Str) (c:UInt8) (w:World) (hs:s.length<=2^31) (hE:Env w) :
 Cz 103 #[.string (S s),.string (S [c])] w λe w'=>e=.returned (.slice (some ⟨w.heap.size,0,none⟩) (P.split c s).length (P.split c s).length)/\a7n w.heap.size (P.split c s) w'/\Bl w w':=by
 obtain⟨m,hm⟩:=hE.2
 have h:=Tryz.strings_Split (S s) (S [c]) m w (by rw [S_size];omega) hm (by simp [S_size])
 have hl:Lib.countB (S s) (S [c])+1=(P.split c s).length:=by
  have:=Lib.splitB_all (S [c]) (by simp [S_size]) 0 _ (S s) rfl;rw [d2y,List.length_map]at this;omega
 rw [hl,d2y]at h
 refine h.mono ?_
 rintro e w' ⟨rfl,rfl⟩
 refine⟨rfl,⟨⟨by simp,⟨_,_,heap_alloc_new w _⟩⟩,λj hj=>?_⟩,bZ.alloc lZ _⟩
 rw [World.cell?_alloc_new]
 simp [hj]
theorem b9f {g:Nat} {v:Value} {n:Nat} {xs:List Value} {l:List Str} (h:w.ownsRow B 3 1 v n xs) (hs:a7n g l w):some g≠v.ownBlock:=by
 rcases h.2 with⟨rfl,_⟩|⟨g',cap,cur,rfl,_,hh,_⟩
 .simp [Value.ownBlock]
 .intro e;simp [Value.ownBlock]at e;subst e;obtain⟨c,f,hc⟩:=hs.1.2;rw [hh]at hc;injection hc with hc;injection hc with _ h2 _;revert h2
  decide
theorem c0z {c:UInt8} {s:Str} (hj:j<(P.split c s).length):((P.split c s)[j]'hj).length<=s.length:=by
 have h:=P.a3v c s
 have h2:∀(l:List Str) (j:Nat) (hj:j<l.length),(l[j]'hj).length<=(l.map List.length).sum:=by
  intro l
  induction l with
  |nil=>intro j hj;simp at hj
  |cons x l ih=>
   intro j hj
   cases j with
   |zero=>simp
   |succ j=>have:=ih j (by simpa using hj);simp;omega
 have h3:=h2 _ j hj;omega
theorem c1e (c:UInt8) (s:Str):(P.split c s).length<=s.length+1:=by
 have h:=P.a3v c s;omega
def c1z (r:Option (List Int)) (w:World) (e:Ending) (w':World):Prop:=∃u,e=.returned (.tuple #[u,.bool r.isSome])/\OwnK w.heap.size w' u (r.getD [])/\Bl w w'
theorem b5r (B:Nat) (v:World):OwnK B v (.slice none 0 0) []:=World.ownsRow_nil _ _ _ _
theorem c2n (B:Nat) (w:World) (hB:B<=w.heap.size):OwnK B (w.alloc (.cells #[] 3)) (.slice (some ⟨w.heap.size,0,none⟩) 0 0) []:=a2g (b6i w) hB
theorem b3r (s:Str) (w:World) (hs:s.length<=4000) (hE:Env w) :
 Cz 269 #[.string (S s)] w (c1z (P.a2u (P.split 47 s)) w):=by
 obtain⟨i0,hi,hz0,hz1,hz2⟩:=info_parts a2i
 have hb0:=(Below.refl w.heap.size w).alloc lZ (.cells #[] 3)
 have HO0:=qh (b6i w)
 have HE0:=qh (hE.below hb0 hE.size);have HB0:=qh hb0
 have HPL:=qh (λj hj=>c0z (c:=47) (s:=s) (j:=j) hj);have hpl:=c1e 47 s
 clear hb0 hE
 go_enter func269,ntmps269
 go_wp2_with fail
 refine (e2i s 47 _ oZ HE0.o).mono ?_
 rintro e w1 ⟨rfl,hst,hb⟩
 have HST0:=qh hst;have HB1:=bt HB0 hb;have HO1:=qh (a0i HO0.o hb lZ)
 generalize P.split 47 s=L at *
 generalize (w.alloc (.cells #[] 3)).heap.size=g at *
 clear hst hb HE0 HB0 HO0
 go_wp2
 go_loopw [4,13] (λv i wr=>∃(k:Nat) (acc:List Int),k<=L.length/\i=.int .i64 k/\acc.length=k/\P.a2u L=(P.a2u (L.drop k)).map (acc++·)/\OwnK w.heap.size wr v acc/\a7n g L wr/\Bl w wr) (λ_ i _=>L.length-(intOf i).toNat)
 case atStart=>exact⟨0,[],Nat.zero_le _,rfl,rfl,by rw [List.drop_zero];simp,HO1.o,HST0.o,HB1.o⟩
 case round=>
  obtain⟨k,acc,hk,rfl,hacc,hrun,hown,hst,hbel⟩:=hrel;have HRUN:=qh hrun;have HOWN:=qh hown;have HST1:=qh hst;have HBEL:=qh hbel;obtain⟨ua,uc,rfl⟩:=a0h hown;have HACC:=qh hacc;have hal:acc.length<=4001:=by omega
  clear hacc hrun hown hbel HO1 HST0 HB1
  by_cases hlt:k<L.length
  .have c0:=hst.2 k hlt;have i1:(k:Int)<(L.length:Int):=by omega
   have hll:=HPL.o k hlt;clear hst
   go_wp2_with fail
   refine (a8s L[k] _ oZ).mono ?_;rintro e w2 ⟨rfl,hb⟩;have HB2:=bt HBEL hb;have HOK:=qh (a0i HOWN.o hb lZ);have HST:=qh (HST1.o.below hb);clear hb c0 HBEL HOWN HST1
   cases hp:(P.parse L[k]).2
   .have HP:=qh (show P.a2u L=none by rw [HRUN.o,P.c5g hlt (P.c3n hp)];rfl);clear hp;go_wp2;go_ret2;exact⟨.slice none 0 0,by rw [HP.o];rfl,by rw [HP.o];exact b5r _ _,HB2.o⟩
   .skip;have HOA:=qh (HOK.o.alloc (.cells #[.int .i64 ((P.parse L[k]).1:Int)] 3));have HSZ:=qh HB2.o.size;have HX1:=qh (P.b9m hp);have HNX:=qh (P.b6h hlt HX1.o HRUN.o);have HST2:=qh (HST.o.below (bZ.alloc lZ (.cells #[.int .i64 ((P.parse L[k]).1:Int)] 3)));clear hp
    go_wp2_with (at_builtin;refine wpList_append_own _ rfl _ _ 33 rfl w.heap.size 3 i0 (.int .i64 0) 1 8 underlying33 hi hz0 hz1 hz2 rfl dZ (.slice ua acc.length uc) acc.length (ints acc) rfl HOA.o ⟨w2.heap.size,0,none⟩ 1 1 [.int .i64 ((P.parse L[k]).1:Int)] rfl rfl ?_ ?_ ?_ ?_ ?_ ?_)
    all_goals first|exact⟨rfl,rfl⟩|(intro z hz;simp only [List.mem_cons,List.not_mem_nil,or_false]at hz;subst hz;rfl)|(unfold maxLen;omega)|omega|(have h1:=HSZ.o;simp;omega)|(intro i z hz;rcases i with _|i;(injection hz with hz;subst hz;rw [add0];go_simp);cases hz)|skip
    intro u4 w4 hown hgr _;have H6:=qh (b6n HOK.o HB2.o 3 hown hgr);have H7:=qh (HST2.o.grown hgr (b9f HOA.o HST2.o));clear hown hgr HOA;go_wp2
    go_roundw
    case rel=>exact⟨k+1,acc++[((P.parse L[k]).1:Int)],by omega,by go_num,by rw [List.length_append,HACC.o];rfl,HNX.o,H6.o.1,H7.o,H6.o.2⟩
    case measure=>exact zq
  .have hkl:k=L.length:=by omega
   subst hkl;have HP:=qh (P.b9i HRUN.o);clear hst;go_wp2;go_ret2;exact⟨_,by rw [HP.o];rfl,by rw [HP.o];exact HOWN.o,HBEL.o⟩
theorem a8u {r:Option (List Int)} {o:List Int} (h:r=some o):r.filter P.a0k=if P.a0k o then some o else none:=by
 rw [h];simp [Option.filter]
theorem a7d (s:Str) (w:World) (hs:s.length<=2^40) (hE:Env w) :
 Cz 209 #[.string (S s)] w (c1z (P.a1u s) w):=by
 have HLO:=qh (P.b7j (s:=s))
 have HE:=qh hE
 clear hE
 go_enter func209,ntmps209
 by_cases hl:4000<s.length
 .have i1:(4000:Int)<(s.length:Int):=by omega
  have HP:=qh (HLO.o hl);go_wp2;go_ret2;exact⟨.slice none 0 0,by rw [HP.o];rfl,by rw [HP.o];exact b5r _ _,Below.refl _ _⟩
 .have i1:¬(4000:Int)<(s.length:Int):=by omega
  have HPO:Hq (P.a1u s=(P.a2u (P.split 47 s)).filter P.a0k):=⟨rfl⟩
  go_wp2_with fail
  refine (b3r s _ oZ HE.o).mono ?_;rintro e w1 ⟨u,rfl,ho,hb⟩;have HO:=qh ho;have HB1:=qh hb;have HE1:=qh (HE.o.below hb HE.o.size);clear ho hb HLO;have HLL:=qh (λr=>P.a6w (L:=P.split 47 s) (r:=r));have hpl:=c1e 47 s;generalize P.a2u (P.split 47 s)=r at *
  cases r with
  |none=>
   go_wp2;go_ret2;exact⟨.slice none 0 0,by rw [HPO.o];rfl,by rw [HPO.o];exact b5r _ _,HB1.o⟩
  |some o=>
   have hol:o.length<=2^45:=by have:=(HLL.o o rfl).1;omega
   have HQ:=qh (a8u (r:=some o) rfl);obtain⟨ua,uc,rfl⟩:=a0h HO.o;simp only [Option.getD_some,Option.isSome_some]at HO⊢
   go_wp2_with fail
   refine (b0n _ o _ (a2j HO.o hol)).mono ?_;rintro e w2 ⟨rfl,hb⟩;have HB2:=bt HB1 hb;have HO2:=qh (a0i HO.o hb lZ);clear hb
   cases hq:P.a0k o
   .have HP:=qh (show P.a1u s=none by rw [HPO.o,HQ.o,hq];rfl);clear hq;go_wp2;go_ret2;exact⟨.slice none 0 0,by rw [HP.o];rfl,by rw [HP.o];exact b5r _ _,HB2.o⟩
   .have HP:=qh (show P.a1u s=some o by rw [HPO.o,HQ.o,hq];rfl);clear hq;go_wp2;go_ret2;exact⟨_,by rw [HP.o];rfl,by rw [HP.o];exact HO2.o,HB2.o⟩
theorem a6z (s:Str) (w:World) (hs:s.length<=2^40) :
 Cz 236 #[.string (S s)] w (c1z (P.a1u s) w):=by
 obtain⟨i0,hi,hz0,hz1,hz2⟩:=info_parts a2i
 have hb0:=(Below.refl w.heap.size w).alloc lZ (.cells #[] 3)
 have HO0:=qh (b6i w)
 have HB0:=qh hb0
 have HPL:=qh (λj hj=>c0z (c:=47) (s:=s) (j:=j) hj);have hpl:=c1e 47 s
 have HTK:=qh (P.c6k s);have HNE:=qh (P.a2y 47 s)
 clear hb0
 go_enter func236,ntmps236
 go_wp2_with fail
 refine (a4y s 47 _ hs).mono ?_
 rintro e w1 ⟨v,rfl,hst,hb⟩
 obtain⟨g,gc,rfl,hg,hst⟩:=a6r hst HNE.o
 have HST0:=qh hst;have HB1:=bt HB0 hb;have HO1:=qh (a0i HO0.o hb lZ)
 generalize P.split 47 s=L at *
 obtain⟨M,hM⟩:∃M,L.take 7=M:=⟨_,rfl⟩
 have hml:M.length<=7/\M.length<=L.length/\(M.length=7\/M.length=L.length):=by rw [<-hM,List.length_take];omega
 have HMG:Hq (∀k (h1:k<M.length) (h2:k<L.length),L[k]=M[k]):=⟨by subst hM;intro k h1 h2;rw [List.getElem_take]⟩
 rw [hM]at HTK
 clear hst hb HB0 HO0 hM
 go_wp2
 go_loopw [4,6] (λv i wr=>∃(k:Nat) (acc:List Int),k<=M.length/\i=.int .i64 k/\acc.length=k/\P.a2u M=(P.a2u (M.drop k)).map (acc++·)/\OwnK w.heap.size wr v acc/\a7n g L wr/\Bl w wr) (λ_ i _=>M.length-(intOf i).toNat)
 case atStart=>exact⟨0,[],Nat.zero_le _,rfl,rfl,by rw [List.drop_zero];simp,HO1.o,HST0.o,HB1.o⟩
 case round=>
  obtain⟨k,acc,hk,rfl,hacc,hrun,hown,hst,hbel⟩:=hrel;have HRUN:=qh hrun;have HOWN:=qh hown;have HST1:=qh hst;have HBEL:=qh hbel;obtain⟨ua,uc,rfl⟩:=a0h hown;have HACC:=qh hacc;have hal:acc.length<=7:=by omega
  clear hacc hrun hown hbel HO1 HST0 HB1
  by_cases hlt:k<M.length
  .have hlt2:k<L.length:=by omega
   have c0:=hst.2 k hlt2;have i1:(k:Int)<(L.length:Int):=by omega
   have i2:(k:Int)<=6:=by omega
   have hll:=HPL.o k hlt2;rw [HMG.o k hlt hlt2]at c0 hll;clear hst
   go_wp2_with fail
   refine (a8q M[k] _ oZ).mono ?_;rintro e w2 ⟨rfl,hb⟩;have HB2:=bt HBEL hb;have HOK:=qh (a0i HOWN.o hb lZ);have HST:=qh (HST1.o.below hb);clear hb c0 HBEL HOWN HST1
   cases hp:(P.parse M[k]).2
   .have HP:=qh (show P.a1u s=none by rw [HTK.o,HRUN.o,P.c5g hlt (P.c3n hp)];rfl);clear hp;go_wp2;go_ret2;exact⟨.slice (some ⟨w2.heap.size,0,none⟩) 0 0,by rw [HP.o];rfl,by rw [HP.o];exact c2n _ _ HB2.o.size,HB2.o.alloc HB2.o.size _⟩
   .skip;have HOA:=qh (HOK.o.alloc (.cells #[.int .i64 ((P.parse M[k]).1:Int)] 3));have HSZ:=qh HB2.o.size;have HX1:=qh (P.b9m hp);have HNX:=qh (P.b6h hlt HX1.o HRUN.o);have HST2:=qh (HST.o.below (bZ.alloc lZ (.cells #[.int .i64 ((P.parse M[k]).1:Int)] 3)));clear hp
    go_wp2_with (at_builtin;refine wpList_append_own _ rfl _ _ 33 rfl w.heap.size 3 i0 (.int .i64 0) 1 8 underlying33 hi hz0 hz1 hz2 rfl dZ (.slice ua acc.length uc) acc.length (ints acc) rfl HOA.o ⟨w2.heap.size,0,none⟩ 1 1 [.int .i64 ((P.parse M[k]).1:Int)] rfl rfl ?_ ?_ ?_ ?_ ?_ ?_)
    all_goals first|exact⟨rfl,rfl⟩|(intro z hz;simp only [List.mem_cons,List.not_mem_nil,or_false]at hz;subst hz;rfl)|(unfold maxLen;omega)|omega|(have h1:=HSZ.o;simp;omega)|(intro i z hz;rcases i with _|i;(injection hz with hz;subst hz;rw [add0];go_simp);cases hz)|skip
    intro u4 w4 hown hgr _;have H6:=qh (b6n HOK.o HB2.o 3 hown hgr);have H7:=qh (HST2.o.grown hgr (b9f HOA.o HST2.o));clear hown hgr HOA;go_wp2
    go_roundw
    case rel=>exact⟨k+1,acc++[((P.parse M[k]).1:Int)],by omega,by go_num,by rw [List.length_append,HACC.o];rfl,HNX.o,H6.o.1,H7.o,H6.o.2⟩
    case measure=>exact zq
  .have hkl:k=M.length:=by omega
   subst hkl;have HP:=qh (P.b9i HRUN.o);have HQ:=qh (HTK.o.trans (a8u HP.o));have HMM:=qh hml;obtain⟨q,hq⟩:∃q,P.a0k acc=q:=⟨_,rfl⟩;have HOQ:=qh hq;clear hst hq
   rcases Nat.lt_or_ge M.length L.length with hl|hl
   .have i1:(M.length:Int)<(L.length:Int):=by omega
    have i2:¬(M.length:Int)<=6:=by omega
    exact zq73
   .have i1:¬(M.length:Int)<(L.length:Int):=by omega
    exact zq73
end Go.Proofs.YtggfdnopminemaaGreatDoor
