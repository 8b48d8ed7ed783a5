/- Walks: encoding of records. -/
import Derived.Test.YtggfdnopminemaaGreatDoorLLog1
set_option linter.all false
namespace Go.Proofs.YtggfdnopminemaaGreatDoor.L
open Go.Proofs.Tryz
open Go Go.RowKit
set_option maxHeartbeats 8000000
set_option maxRecDepth 100000
variable {l:List Str} {B C k n:Nat} {o:Go.Obj} {s x:Str} {e:Go.TypeId} {v v':Go.Value} {w1 w2:Go.World}
theorem appendChecksum (s:Str) (w:World) (hs:s.length<=2^30) (hE:Env w) :
 Cz 219 #[.string (S s)] w λe w'=>e=.returned (.tuple #[.string (S (P.appendChecksum s).1),.bool (P.appendChecksum s).2])/\Bl w w':=by
 have hs':s.length<=maxLen:=by unfold maxLen;omega
 have HE:=qh hE;clear hE
 have hl:=c2p s
 have hl2:=P.num_len (P.sum s) oZ
 by_cases h1:(s.length:Int)<=4000
 .have hp:P.sealed s=s++35::P.num (P.sum s):=rfl;have hps:(P.sealed s).length=s.length+((P.num (P.sum s)).length+1):=by rw [hp];simp
  have HP:=qh hp;clear hp;have HPS:=qh hps;clear hps;have hd1:decide ((s.length:Int)<=4000)=true:=decide_eq_true h1;have HD1:=qh hd1;clear hd1
  cases h2:Lib.contains s [35]
  .by_cases h3:(s.length:Int)+(((P.num (P.sum s)).length:Int)+1)<=4000
   .have HF:=qh (show P.appendChecksum s=(P.sealed s,true) by unfold P.appendChecksum P.sealable;rw [HD1.o,h2,HPS.o,decide_eq_true oZ];rfl);have H1:=qh h1;clear h1;have h3':(s.length:Int)+((P.num (P.sum s)).length:Int)<4000:=by omega
    clear h3
    go_enter func219,ntmps219
    go_wp2_with (first|(go_at_call 277;refine (b9z _ _ hs').mono ?_;rintro e w' ⟨rfl,rfl⟩;rw [if_pos H1.o,HD1.o])|(go_at_call 145;refine (a5n _ _ oZ oZ HE.o).mono ?_;rintro e w' ⟨rfl,hb⟩;have HB:=qh hb;clear hb;rw [Int.toNat_natCast])|(go_at_call 136;refine (contains_one _ 35 _).mono ?_;rintro e w' ⟨rfl,rfl⟩))
    go_ret2;exact⟨by rw [HF.o,HP.o];rfl,HB.o⟩
   .have h3':=Int.not_le.1 h3;clear h3;have HF:=qh (show P.appendChecksum s=([],false) by unfold P.appendChecksum P.sealable;rw [HD1.o,h2,HPS.o,decide_eq_false oZ];rfl);exact zq62
  .have HF:=qh (show P.appendChecksum s=([],false) by unfold P.appendChecksum P.sealable;rw [HD1.o,h2];rfl);exact zq62
 .have HF:=qh (show P.appendChecksum s=([],false) by unfold P.appendChecksum P.sealable;rw [decide_eq_false h1];rfl);have h0:=P.num_len 0 oZ;have hd1:decide ((s.length:Int)<=4000)=false:=decide_eq_false h1;have HD1:=qh hd1;clear hd1
  go_enter func219,ntmps219
  go_wp2_with (first|(go_at_call 277;refine (b9z _ _ hs').mono ?_;rintro e w' ⟨rfl,rfl⟩;rw [if_neg h1,HD1.o])|(go_at_call 145;refine (a5n _ _ oZ oZ HE.o).mono ?_;rintro e w' ⟨rfl,hb⟩;have HB:=qh hb;clear hb;rw [show (0:Int).toNat=0 from rfl])|(go_at_call 136;refine (contains_one _ 35 _).mono ?_;rintro e w' ⟨rfl,rfl⟩))
  go_ret2;exact⟨by rw [HF.o];rfl,HB.o⟩
theorem b1p (s:Str):(P.appendChecksum s).1.length<=4000:=by
 unfold P.appendChecksum
 cases h:P.sealable s
 .simp
 .unfold P.sealable at h;simp only [Bool.and_eq_true,decide_eq_true_eq]at h;have:=h.2.2
  show (P.sealed s).length<=4000
  omega
theorem b3z (k:Int) (c r:Str) (w:World) (hc:c.length<=2^28) (hr:r.length<=2^28) (hE:Env w) :
 Cz 147 #[.int .i64 k,.agg #[.string (S c),.string (S r)]] w λe w'=>e=.returned (.tuple #[.string (S (P.encode k c r).1),.bool (P.encode k c r).2])/\Bl w w':=by
 have HE:=qh hE;clear hE
 cases h1:decide (0<=k/\k<=59)
 .have HF:=qh (show P.encode k c r=([],false) by unfold P.encode;rw [h1];rfl)
  go_enter func147,ntmps147
  go_wp2_with (go_at_call 74;refine (a2g _ _ _ _).mono ?_;rintro e w' ⟨rfl,rfl⟩)
  go_ret2;exact⟨by rw [HF.o];rfl,bZ.alloc lZ _⟩
 .have hk:=of_decide_eq_true h1;obtain⟨hk0,hk1⟩:=hk
  cases h2:P.vrec c r
  .have HF:=qh (show P.encode k c r=([],false) by unfold P.encode;rw [h1,h2];rfl)
   go_enter func147,ntmps147
   go_wp2_with (first|(go_at_call 74;refine (a2g _ _ _ _).mono ?_;rintro e w' ⟨rfl,rfl⟩)|(go_at_call 68;refine (a3c _ _ _ oZ oZ).mono ?_;rintro e w' ⟨rfl,hb⟩;have HB:=qh hb;clear hb))
   go_ret2;exact⟨by rw [HF.o];rfl,(bZ.alloc lZ _).trans (HB.o.mono sZ)⟩
  .have HF:=qh (show P.encode k c r=((P.appendChecksum (P.num k.toNat++32::(c++62::r))).1++[10],true) by unfold P.encode;rw [h1,h2];rfl);have hn:=P.num_len k.toNat oZ;have hl:=b1p (P.num k.toNat++32::(c++62::r))
   go_enter func147,ntmps147
   go_wp2_with (first|(go_at_call 74;refine (a2g _ _ _ _).mono ?_;rintro e w' ⟨rfl,rfl⟩)|(go_at_call 68;refine (a3c _ _ _ oZ oZ).mono ?_;rintro e w' ⟨rfl,hb⟩;have HB:=qh hb;clear hb))
   have hb:=HB.o;have hc0:w'.cell? ⟨w.heap.size,0,none⟩=some (.string (S c)):=by rw [hb.cell (p:=⟨w.heap.size,0,none⟩) sZ];go_simp
   have hc1:w'.cell? ⟨w.heap.size,1,none⟩=some (.string (S r)):=by rw [hb.cell (p:=⟨w.heap.size,1,none⟩) sZ];go_simp
   have hsz:w.heap.size<w'.heap.size:=by have:=hb.size;simp at this;omega
   have hE1:Env w':=(HE.o.alloc _).below hb (HE.o.alloc _).size;have hb1:Bl w w':=(bZ.alloc lZ _).trans (hb.mono sZ);clear hb;have f1:¬9223372036854775807<(P.num k.toNat).length+1:=by omega
   have f2:¬9223372036854775807<(P.num k.toNat).length+1+c.length:=by omega
   have f3:¬9223372036854775807<(P.num k.toNat).length+(c.length+1)+1:=by omega
   have f4:¬9223372036854775807<(P.num k.toNat).length+(c.length+1+1)+r.length:=by omega
   go_region_held3 (λv=>v.cell? ⟨w.heap.size,0,none⟩=some (.string (S c))/\v.cell? ⟨w.heap.size,1,none⟩=some (.string (S r))/\w.heap.size<v.heap.size/\Env v/\Bl w v) (first|assumption|exact⟨hc0,hc1,hsz,hE1.drewN 1,below_drewN hb1 1⟩|exact held2 (by assumption) hb)
    (first|(go_at_call 145;refine (a5n _ _ oZ oZ ?_).mono ?_;exact (by assumption:_/\_/\_/\Env _/\_).2.2.2.1;rintro e v ⟨rfl,hb⟩)|(go_at_call 219;refine (appendChecksum _ _ (by simp;omega) ?_).mono ?_;exact (by assumption:_/\_/\_/\Env _/\_).2.2.2.1;rintro e v ⟨rfl,hb⟩))
   have hx:Bl w v:=b8x (by assumption);have HX:=qh hx;clear hx f1 f2 f3 f4;go_wp2;go_ret2;exact⟨by rw [HF.o];rfl,HX.o⟩
theorem a7r:(Tryz.prog.info? 9).map (λi=>(i.zero,i.size,i.bytes))=some (some (.string ⟨#[]⟩),1,16):=by kernel_rfl
theorem a0m.snoc {w:World} (h:w.ownsRow B 9 1 v (l.length+1) (a2b l++[.string (S x)])):a0m B w v (l++[x]):=by
 unfold a0m;rw [List.length_append];simpa [a2b] using h
theorem b1k {w:World} (hsz:w.heap.size<=w1.heap.size) (hown:a0m w.heap.size w1 v l) (hb:Bl w w1)
 (h:w2.ownsRow w.heap.size 9 1 v' (l.length+1) (a2b l++[.string (S x)])) (hg:(w1.alloc o).grownBy w2 v.ownBlock) :
 a0m w.heap.size w2 v' (l++[x])/\Bl w w2:=
 ⟨a0m.snoc h,(hb.alloc hsz _).grown hg (by simp;omega) (λk hk=>(World.ownsRow.lt hown k hk).1)⟩
theorem a4g (s:Str) (c:UInt8) (w:World) (hs:s.length<=2^40) :
 Cz 66 #[.string (S s),.int .u8 c.toNat] w (a3x c s w):=by
 obtain⟨i0,hi,hz0,hz1,hz2⟩:=info_parts a7r
 go_enter func66,ntmps66
 go_wp2
 go_loopw [5,6,7] (λv fr i wr=>∃(k f:Nat) (init:List Str),k<=s.length/\f<=k/\i=.int .i64 k/\fr=.int .i64 f/\init.length<=k/\P.split c (s.take k)=init++[(s.drop f).take (k-f)]/\a0m w.heap.size wr v init/\Bl w wr)
  (λ_ _ i _=>s.length-(intOf i).toNat)
 case atStart=>exact⟨0,0,[],Nat.zero_le _,Nat.le_refl _,rfl,rfl,Nat.le_refl _,by simp [P.split],World.ownsRow_made _ _ _ lZ dZ (by rfl),bZ.alloc lZ _⟩
 case round=>
  exact zq7
theorem b2c (s:Str) (w:World) (hs:s.length<=2^40) :
 Cz 66 #[.string (S s),.int .u8 35] w (a3x 35 s w):=a4g s 35 w hs
theorem b7g (s:Str) (w:World) (hs:s.length<=2^40) :
 Cz 66 #[.string (S s),.int .u8 62] w (a3x 62 s w):=a4g s 62 w hs
theorem b2b (s:Str) (w:World) (hs:s.length<=2^40) :
 Cz 66 #[.string (S s),.int .u8 10] w (a3x 10 s w):=a4g s 10 w hs
def d8h (k:Nat) (s:Str) (w:World) (e:Ending) (w':World):Prop:=
 e=.returned (.tuple #[.agg #[.string (S (P.a0w k s).1),.string (S (P.a0w k s).2.1)],.bool (P.a0w k s).2.2])/\Bl w w'
theorem a7f {w:World} {c:UInt8} {l:Str} (h:a0m B w v (P.split c l)):∃g cap,v=.slice (some ⟨g,0,none⟩) (P.split c l).length cap/\B<=g/\g<w.heap.size/\w.cell? ⟨g,0,none⟩=some (.string (S (P.head c l)))/\1<=(P.split c l).length:=by
 have hlen:1<=(P.split c l).length:=by
  cases hs:P.split c l with
  |nil=>exact absurd hs (P.a2k c l)
  |cons x r=>simp
 have h2:=h.2
 rcases h.2 with⟨_,h0⟩|⟨g,cap,cur,hv,hg,hh,hn,_⟩
 .omega
 .have hob:v.ownBlock=some g:=by rw [hv];rfl
  have hc:=World.ownsRow.cells h hob 0 (.string (S (P.head c l))) (by
   unfold a2b P.head
   cases hs:P.split c l with
   |nil=>exact absurd hs (P.a2k c l)
   |cons x r=>simp)
  have hlt:=(World.ownsRow.lt h g hob).2;exact⟨g,cap,hv,hg,hlt,by simpa [Addr.add] using hc,hlen⟩
theorem read1 (h:(P.head 35 s).length<(P.num k).length+1\/(List.take ((P.num k).length+1) (P.head 35 s)==P.num k++[32])=false):P.a0w k s=([],[],false):=by
 unfold P.a0w;rw [if_pos]
 rcases h with h|h
 .simp [h]
 .simp [bne,h]
theorem read2 (h:¬(P.head 35 s).length<(P.num k).length+1) (h2:(List.take ((P.num k).length+1) (P.head 35 s)==P.num k++[32])=true) {rest:Str} (hr:rest=List.drop ((P.num k).length+1) (P.head 35 s)) :
 P.a0w k s=if (P.head 62 rest).length=rest.length then ([],[],false) else (P.head 62 rest,rest.drop ((P.head 62 rest).length+1),P.good (P.head 62 rest) (rest.drop ((P.head 62 rest).length+1))&&(P.line k (P.head 62 rest) (rest.drop ((P.head 62 rest).length+1))==s++[10])):=by
 subst hr
 unfold P.a0w
 rw [if_neg]
 .simp only [List.length_append,List.length_cons,List.length_nil]
 .simp [bne,h2];omega
theorem d4u (k:Int) (s:Str) (w:World) (h0:0<=k) (hk:k<1000) (hs:s.length<=2^32) :
 Cz 198 #[.string (S s),.int .i64 k] w (d8h k.toNat s w):=by
 have hn:=P.num_len k.toNat oZ
 have hh:=P.b1t 35 s
 by_cases h1:((P.head 35 s).length:Int)<((P.num k.toNat).length:Int)+1
 .have HF:=qh (read1 (k:=k.toNat) (s:=s) (.inl oZ));exact zq37
 .cases h2:(List.take ((P.num k.toNat).length+1) (P.head 35 s)==P.num k.toNat++[32])
  .have HF:=qh (read1 (k:=k.toNat) (s:=s) (.inr h2));exact zq37
  .obtain⟨rest,hrest⟩:∃rest,rest=List.drop ((P.num k.toNat).length+1) (P.head 35 s):=⟨_,rfl⟩;have hrl:rest.length<=s.length:=by rw [hrest];simp;omega
   have HR:=qh (read2 (k:=k.toNat) (s:=s) oZ h2 hrest);have HREST:=qh hrest;clear hrest;have hh2:=P.b1t 62 rest
   by_cases h3:((P.head 62 rest).length:Int)=(rest.length:Int)
   .have HF:=qh (show P.a0w k.toNat s=([],[],false) by rw [HR.o,if_pos oZ]);have h3b:(((P.head 62 rest).length:Int)==(rest.length:Int))=true:=by simpa using h3
    clear h3
    go_enter func198,ntmps198
    go_wp2_with (first|(go_at_call 197;refine (c0i _ _ oZ oZ).mono ?_;rintro e w' ⟨rfl,n1,rfl⟩)|(go_at_call 66;((with_reducible refine (b2c _ _ oZ).mono ?_);rintro e w1 ⟨v,rfl,hown,hb⟩;obtain⟨g,cap,rfl,hg,hgl,hcell,hl1⟩:=a7f hown;clear hown;obtain⟨hcc,hff⟩:=a8b hb;have hz:=grew hb;have HB:=qh hb;clear hb)))
    rw [<-HREST.o]
    go_wp2_with (first|(go_at_call 66;((with_reducible refine (b7g _ _ oZ).mono ?_);rintro e w2 ⟨v2,rfl,hown2,hb2⟩;obtain⟨g2,cap2,rfl,hg2,hgl2,hcell2,hl12⟩:=a7f hown2;clear hown2;obtain⟨hcc2,hff2⟩:=a8b hb2;have hz2:=Nat.lt_of_lt_of_le hz hb2.size;have HB2:=qh hb2;clear hb2)))
    refine bodyPost_ret (v:=.tuple #[.agg #[.string (S []),.string (S [])],.bool false]) (by simp [results,results198,go_sem,hcc,hcc2,hz]) rfl ⟨by rw [HF.o],?_⟩;exact (((below_drewN (bZ.alloc lZ _) _).trans (HB.o.mono sZ)).trans (HB2.o.mono (by have:=HB.o.size;simp at this⊢;omega))).setCell sZ _ |>.setCell sZ _
   .have h3b:(((P.head 62 rest).length:Int)==(rest.length:Int))=false:=by simpa using h3
    have h3':((P.head 62 rest).length:Int)+1<=(rest.length:Int):=by omega
    obtain⟨rep,hrep⟩:∃rep,rep=List.drop ((P.head 62 rest).length+1) rest:=⟨_,rfl⟩;have hrpl:rep.length<=rest.length:=by rw [hrep];simp
    have HF:=qh (show P.a0w k.toNat s=(P.head 62 rest,rep,P.good (P.head 62 rest) rep&&(P.line k.toNat (P.head 62 rest) rep==s++[10])) by rw [HR.o,if_neg oZ,<-hrep]);have HREP:=qh hrep;clear hrep;clear h3
    go_enter func198,ntmps198
    go_wp2_with (first|(go_at_call 197;refine (c0i _ _ oZ oZ).mono ?_;rintro e w' ⟨rfl,n1,rfl⟩)|(go_at_call 66;((with_reducible refine (b2c _ _ oZ).mono ?_);rintro e w1 ⟨v,rfl,hown,hb⟩;obtain⟨g,cap,rfl,hg,hgl,hcell,hl1⟩:=a7f hown;clear hown;obtain⟨hcc,hff⟩:=a8b hb;have hz:=grew hb;have HB:=qh hb;clear hb)))
    rw [<-HREST.o]
    go_wp2_with (first|(go_at_call 66;((with_reducible refine (b7g _ _ oZ).mono ?_);rintro e w2 ⟨v2,rfl,hown2,hb2⟩;obtain⟨g2,cap2,rfl,hg2,hgl2,hcell2,hl12⟩:=a7f hown2;clear hown2;obtain⟨hcc2,hff2⟩:=a8b hb2;have hz2:=Nat.lt_of_lt_of_le hz hb2.size;have HB2:=qh hb2;clear hb2)))
    rw [<-HREP.o];have hr0:w2.cell? ⟨w.heap.size,0,none⟩=some (.string (S [])):=by rw [hcc2 _ _ hz,hcc _ _ sZ];go_simp
    have hr1:w2.cell? ⟨w.heap.size,1,none⟩=some (.string (S [])):=by rw [hcc2 _ _ hz,hcc _ _ sZ];go_simp
    have hr2:w2.frozen? ⟨w.heap.size,0,none⟩=false:=by rw [hff2 _ _ hz,hff _ _ sZ];go_simp
    have hr3:w2.frozen? ⟨w.heap.size,1,none⟩=false:=by rw [hff2 _ _ hz,hff _ _ sZ];go_simp
    have hb:Bl w w2:=((below_drewN (bZ.alloc lZ _) _).trans (HB.o.mono sZ)).trans (HB2.o.mono oZ)
    have hS:(λv:World=>v.cell? ⟨w2.heap.size,0,none⟩=some (.string (S (P.head 62 rest)))/\v.cell? ⟨w2.heap.size,1,none⟩=some (.string (S rep))/\v.cell? ⟨w.heap.size,0,none⟩=some (cellOf v ⟨w.heap.size,0,none⟩)/\v.cell? ⟨w.heap.size,1,none⟩=some (cellOf v ⟨w.heap.size,1,none⟩)/\v.frozen? ⟨w.heap.size,0,none⟩=false/\v.frozen? ⟨w.heap.size,1,none⟩=false/\w.heap.size<w2.heap.size/\w2.heap.size<v.heap.size/\Bl w v) ((w2.alloc (Obj.cells #[.string (S (P.head 62 rest)),.string (S rep)] 86)).drew):=by
     refine⟨?_,?_,?_,?_,?_,?_,hz2,by simp,(hb.alloc oZ _).drew⟩
     .go_simp
     .go_simp
     .exact a5h (x:=.string (S [])) (by go_simp)
     .exact a5h (x:=.string (S [])) (by go_simp)
     .go_simp
     .go_simp
    clear hcc hff hcc2 hff2 HB HB2 hcell hcell2 hg hg2 hgl hgl2 HR h2 h3b hb hl1 hl12 hr0 hr1 hr2 hr3 hz;have HS:=qh hS;clear hS
    cases hgd:P.good (P.head 62 rest) rep
    case true=>
     have f8:¬9223372036854775807<s.length+1:=by omega
     first|(go_region_held3 (λv:World=>v.cell? ⟨w2.heap.size,0,none⟩=some (.string (S (P.head 62 rest)))/\v.cell? ⟨w2.heap.size,1,none⟩=some (.string (S rep))/\v.cell? ⟨w.heap.size,0,none⟩=some (cellOf v ⟨w.heap.size,0,none⟩)/\v.cell? ⟨w.heap.size,1,none⟩=some (cellOf v ⟨w.heap.size,1,none⟩)/\v.frozen? ⟨w.heap.size,0,none⟩=false/\v.frozen? ⟨w.heap.size,1,none⟩=false/\w.heap.size<w2.heap.size/\w2.heap.size<v.heap.size/\Bl w v) (first|assumption|exact HS.o|exact heldR (by assumption) hb|exact b0v (b0v (by assumption) _ sZ _) _ sZ _)
      (first|(go_at_call 94;refine (b2y _ _ _ (by unfold maxLen;omega) (by unfold maxLen;omega)).mono ?_;rintro e v ⟨rfl,hb⟩;rw [hgd])|(go_at_call 122;refine (d5k _ _ _ _ h0 hk oZ oZ).mono ?_;rintro e v ⟨rfl,hb⟩)))|fail
     all_goals
      obtain⟨he0,he1,heb⟩:=c3n (v:=v) (by assumption)
      generalize ((v.setCell ⟨w.heap.size,0,none⟩ (.string (S (P.head 62 rest)))).setCell ⟨w.heap.size,1,none⟩ (.string (S rep)))=wf at *
      have HEB:=qh heb;clear heb
      go_wp2
      refine bodyPost_ret (v:=.tuple #[.agg #[.string (S (P.head 62 rest)),.string (S rep)],.bool (P.line k.toNat (P.head 62 rest) rep==s++[10])]) (by simp [results,results198,go_sem,he0,he1]) rfl ⟨by rw [HF.o,hgd];rfl,HEB.o⟩
    case false=>
     refine wp_region_held_drew (S:=λv:World=>v.cell? ⟨w2.heap.size,0,none⟩=some (.string (S (P.head 62 rest)))/\v.cell? ⟨w2.heap.size,1,none⟩=some (.string (S rep))/\v.cell? ⟨w.heap.size,0,none⟩=some (cellOf v ⟨w.heap.size,0,none⟩)/\v.cell? ⟨w.heap.size,1,none⟩=some (cellOf v ⟨w.heap.size,1,none⟩)/\v.frozen? ⟨w.heap.size,0,none⟩=false/\v.frozen? ⟨w.heap.size,1,none⟩=false/\w.heap.size<w2.heap.size/\w2.heap.size<v.heap.size/\Bl w v) kZ HS.o (λhS0=>?_);refine tk 0 (.agg #[.string (S (P.head 62 rest)),.string (S rep)]) (λz hz=>by obtain⟨z1,z2,_⟩:=hz;go_simp) hS0 ?_;refine tk 1 (.agg #[.string (S (P.head 62 rest)),.string (S rep)]) (λz hz=>by obtain⟨z1,z2,_⟩:=hz;go_simp) hS0 ?_;refine trd 2 λK hK=>?_;go_simp;refine zm62 ?_;rintro e v ⟨rfl,hb⟩;rw [hgd];refine hK.out _ _ (heldR HS.o hb) (λhS1=>?_);clear hK K;refine zm0 ?_;refine tk 3 (.bool false) (λz hz=>by obtain⟨z1,z2,_⟩:=hz;go_simp) hS1 ?_;refine tks 4 hS1 ?_;refine tks 5 hS1 ?_;refine tks 6 hS1 ?_;refine tks 7 hS1 ?_;refine tks 8 hS1 ?_;refine tks 9 hS1 ?_;refine tk 10 (.bool false) (λz hz=>by obtain⟨z1,z2,_⟩:=hz;go_simp) hS1 ?_;refine trd 11 λK hK=>?_;obtain⟨z1,z2,z3,z4,z5,z6,z7,z8,z9⟩:=hS1;go_simp;refine hK.out _ _ (b0v (b0v ⟨z1,z2,z3,z4,z5,z6,z7,z8,z9⟩ _ sZ _) _ sZ _) (λhS2=>?_);clear hK K;refine zm0 ?_;refine wpAnyH_take (i:=12) (v:=.bool false) rfl kZ kZ kZ (λ_ _ _ h=>h) (Or.inl ⟨by rfl,λz hz=>by go_simp⟩) hS2 ?_;refine zm0 ?_;refine wpAnyH_done kZ ?_ _;obtain⟨he0,he1,heb⟩:=c3n (v:=v) hS2;clear hS2 z1 z2 z3 z4 z5 z6 z7 z8 z9 hS0 HS hb;generalize ((v.setCell ⟨w.heap.size,0,none⟩ (.string (S (P.head 62 rest)))).setCell ⟨w.heap.size,1,none⟩ (.string (S rep)))=wf at *;have HEB:=qh heb;clear heb;go_wp2;refine bodyPost_ret (v:=.tuple #[.agg #[.string (S (P.head 62 rest)),.string (S rep)],.bool false]) (by simp [results,results198,go_sem,he0,he1]) rfl ⟨by rw [HF.o,hgd];rfl,HEB.o⟩
def b6r (l:List (Str×Str)):List Value:=l.flatMap λx=>[.string (S x.1),.string (S x.2)]
theorem c1v (l:List (Str×Str)) (x:Str×Str):b6r (l++[x])=b6r l++[.string (S x.1),.string (S x.2)]:=by simp [b6r]
def a5a (B:Nat) (w:World) (v:Value) (l:List (Str×Str)):Prop:=w.ownsRow B 86 2 v l.length (b6r l)
theorem c6o:(Tryz.prog.info? 86).map (λi=>(i.zero,i.size,i.bytes))=some (some (.agg #[.string ⟨#[]⟩,.string ⟨#[]⟩]),2,32):=by kernel_rfl
def d6g (s:Str) (w:World) (e:Ending) (w':World):Prop:=∃v,e=.returned (.tuple #[v,.int .i64 (P.a6e s).2])/\a5a w.heap.size w' v (P.a6e s).1/\Bl w w'
theorem b2l {w:World} {l:List (Str×Str)} (h:a5a B w v l):∃a cap,v=.slice a l.length cap:=by
 exact zq59
theorem c8j {w:World} {l:List (Str×Str)} {x:Str×Str} (hsz:w.heap.size<=w1.heap.size) (hown:a5a w.heap.size w1 v l) (hb:Bl w w1)
 (h:w2.ownsRow w.heap.size 86 2 v' (l.length+1) (b6r l++[.string (S x.1),.string (S x.2)])) (hg:(w1.alloc o).grownBy w2 v.ownBlock) :
 a5a w.heap.size w2 v' (l++[x])/\Bl w w2:=by
 refine⟨?_,(hb.alloc hsz _).grown hg (by simp;omega) (λk hk=>(World.ownsRow.lt hown k hk).1)⟩
 unfold a5a;rw [c1v,List.length_append];exact h
theorem a1v {w w':World} {size:Nat} {xs:List Value} (h:w.ownsRow B e size v n xs) (hb:Below C w w') (hC:w.heap.size<=C):w'.ownsRow B e size v n xs:=
 h.kept (row:=none) ⟨hb.os,hb.tape,hb.output,hb.size,λk hk _=>hb.block k oZ⟩ (by cases v.ownBlock<;>simp)
theorem d3q (s:Str) (w:World) (hs:s.length<=2^31) :
 Cz 125 #[.string (S s)] w (d6g s w):=by
 obtain⟨i0,hi,hz0,hz1,hz2⟩:=info_parts c6o
 go_enter func125,ntmps125
 go_wp2
 go_loopw [4,5] (λv i wr=>∃(out:List (Str×Str)) (a:Nat),a<=s.length/\i=.int .i64 a/\out.length<=60/\P.run s (60-out.length) (out,a)=P.a6e s/\a5a w.heap.size wr v out/\Bl w wr)
  (λ_ i _=>s.length-(intOf i).toNat)
 case atStart=>exact⟨[],0,Nat.zero_le _,rfl,Nat.zero_le _,rfl,World.ownsRow_made _ _ _ lZ dZ (by rfl),bZ.alloc lZ _⟩
 case round=>
  obtain⟨out,a,ha,rfl,ho,hrun,hown,hbel⟩:=hrel;obtain⟨ad,cp,rfl⟩:=b2l hown;have HRUN:=qh hrun;clear hrun;have HOWN:=qh hown;clear hown;have HBEL:=qh hbel;clear hbel;have hsz:=HBEL.o.size
  by_cases h1:a<s.length
  .by_cases h2:out.length<60
   .obtain⟨rest,hrest⟩:∃rest,rest=s.drop a:=⟨_,rfl⟩;have hrl:rest.length+a=s.length:=by rw [hrest];simp;omega
    have hhl:=P.b1t 10 rest;have HREST:=qh hrest;clear hrest
    by_cases h3:2<=((P.split 10 rest).length:Int)
    .cases h4:(P.a0w out.length (P.head 10 rest)).2.2
     .have HST:=qh (P.b4r (P.b6t (st:=(out,a)) (s:=s) (.inr (by rw [<-HREST.o];exact h4))) (60-out.length));exact zq27
     .have hht:=P.e1n 10 rest oZ;have HST:=qh (P.d8c (P.d3n (st:=(out,a)) (s:=s) h1 h2 (by rw [<-HREST.o];omega) (by rw [<-HREST.o];exact h4)) (59-out.length))
      go_wp2_with fail
      rw [<-HREST.o]
      go_wp2_with (first|(go_at_call 66;refine (b2b _ _ oZ).mono ?_;rintro e w1 ⟨v,rfl,hown1,hb1⟩;obtain⟨g,cap,rfl,hg,hgl,hcell,hl1⟩:=a7f hown1;clear hown1;have hz1':=hb1.size;have HB1:=qh hb1;clear hb1)|(go_at_call 198;refine (d4u _ _ _ oZ oZ oZ).mono ?_;rintro e w2 ⟨rfl,hb2⟩;rw [Int.toNat_natCast];obtain⟨hcc2,hff2⟩:=a8b hb2;have hz2':=hb2.size;have HB2:=qh hb2;clear hb2)|(at_builtin;refine wpList_append_own _ rfl _ _ 82 rfl w.heap.size 86 i0 (.agg #[.string ⟨#[]⟩,.string ⟨#[]⟩]) 2 32 underlying82 hi hz0 hz1 hz2 rfl dZ _ _ _ rfl (((a1v (a1v HOWN.o HB1.o lZ) HB2.o lZ).alloc _).alloc _) ⟨w2.heap.size+1,0,none⟩ 1 1 [.string (S (P.a0w out.length (P.head 10 rest)).1),.string (S (P.a0w out.length (P.head 10 rest)).2.1)] rfl rfl ?c1 ?c2 ?c3 ?c4 ?c5 ?_))
      case c1=>intro j u hj;match j,hj with|0,hj=>(simp at hj;subst hj;simp [Addr.add])|1,hj=>(simp at hj;subst hj;simp [Addr.add])
      case c2=>intro u hu;simp at hu;rcases hu with rfl|rfl<;>rfl
      case c3=>unfold maxLen;omega
      case c4=>omega
      case c5=>simp;omega
      intro v' w3 hown' hgrow _;have hcw2:w2.cell? ⟨g,0,none⟩=some (.string (S (P.head 10 rest))):=(hcc2 g 0 hgl).trans hcell;have hc3:w3.cell? ⟨g,0,none⟩=some (.string (S (P.head 10 rest))):=hgrow.cell (a9d (a9d hcw2 _) _) (by intro e;have:=(World.ownsRow.lt HOWN.o g e.symm).2;omega);have R:=qh (c8j (x:=((P.a0w out.length (P.head 10 rest)).1,(P.a0w out.length (P.head 10 rest)).2.1)) (w1:=w2.alloc _) (by simp;omega) ((a1v (a1v HOWN.o HB1.o lZ) HB2.o lZ).alloc _) (((HBEL.o.trans (HB1.o.mono hsz)).trans (HB2.o.mono oZ)).alloc oZ _) hown' hgrow);clear hown' hgrow HOWN HBEL HB1 HB2 hcell hcw2 hcc2 hff2;go_wp2
      go_roundw
      case rel=>exact⟨out++[((P.a0w out.length (P.head 10 rest)).1,(P.a0w out.length (P.head 10 rest)).2.1)],a+(P.head 10 rest).length+1,by omega,by go_num,by simp;omega,by rw [<-HRUN.o,show 60-out.length=59-out.length+1 by omega,HST.o,<-HREST.o,List.length_append,List.length_cons,List.length_nil,show 60-(out.length+(0+1))=59-out.length by omega],R.o.1,R.o.2⟩
      case measure=>exact zq
    .have HST:=qh (P.b4r (P.b6t (st:=(out,a)) (s:=s) (.inl (by rw [<-HREST.o];omega))) (60-out.length));exact zq27
   .have HST:=qh (P.b4r (P.step_end (st:=(out,a)) (s:=s) (.inr h2)) (60-out.length));exact zq156
  .have HST:=qh (P.b4r (P.step_end (st:=(out,a)) (s:=s) (.inl h1)) (60-out.length));exact zq156
abbrev logV (d p:Str) (n:Int):Value:=.agg #[.string (S d),.string (S p),.int .i64 n]
theorem b5t (d p:Str) (n:Int) (w:World) (hd:d.length<=2^20) (hp:p.length<=2^20) :
 Cz 58 #[logV d p n] w λe w'=>e=.returned (.bool (P.a1f d p n))/\Bl w w':=by
 by_cases h1:(d.length:Int)+p.length<=30000
 .have hd1:decide ((d.length:Int)+p.length<=30000)=true:=decide_eq_true h1;have HD1:=qh hd1;clear hd1
  cases h2:(((P.a6e (d++p)).2:Int)==(d.length:Int)+p.length)<;>cases h3:(((P.a6e d).2:Int)==(d.length:Int))<;>cases h4:(((P.a6e (d++p)).1.length:Int)==n)
  all_goals
   have HF:=qh (show P.a1f d p n=_ by unfold P.a1f;rw [HD1.o,h2,h3,h4])
   go_enter func58,ntmps58
   go_wp2_with fail
   refine (d3q _ _ (by simp;omega)).mono ?_
   rintro e w1 ⟨v,rfl,hown,hb⟩
   obtain⟨ad,cp,rfl⟩:=b2l hown
   obtain⟨hcc,hff⟩:=a8b hb
   have hz:=d5s hb
   have HB:=qh hb
   clear hown hb
   go_wp2_with fail
   refine (d3q _ _ oZ).mono ?_
   rintro e w2 ⟨v2,rfl,hown2,hb2⟩
   obtain⟨ad2,cp2,rfl⟩:=b2l hown2
   obtain⟨hcc2,hff2⟩:=a8b hb2
   have HB2:=qh hb2
   clear hown2 hb2
   go_wp2
   go_ret
   exact⟨by rw [HF.o];rfl,((bZ.alloc lZ _).trans (HB.o.mono sZ)).trans (HB2.o.mono oZ)⟩
 .have HF:=qh (show P.a1f d p n=false by unfold P.a1f;rw [decide_eq_false h1];rfl)
  go_enter func58,ntmps58
  go_wp2;go_ret;exact⟨by rw [HF.o];rfl,bZ.alloc lZ _⟩
theorem c2n (d p:Str) (n:Int) (w:World) (hd:d.length<=2^20) (hp:p.length<=2^20) :
 Cz 256 #[logV d p n] w λe w'=>e=.returned (.tuple #[logV (P.a6c d p n).1 [] (P.a6c d p n).2.1,.bool (P.a6c d p n).2.2])/\Bl w w':=by
 cases h1:P.a1f d p n
 .have HF:=qh (show P.a6c d p n=([],0,false) by unfold P.a6c;rw [h1];rfl)
  go_enter func256,ntmps256
  go_wp2_with fail
  refine (b5t _ _ _ _ hd hp).mono ?_;rintro e w1 ⟨rfl,hb⟩;obtain⟨hcc,hff⟩:=a8b hb;rw [h1];go_wp2;refine bodyPost_ret (v:=.tuple #[logV [] [] 0,.bool false]) (by simp [results,results256,go_sem,hcc]) rfl ⟨by rw [HF.o],?_⟩;exact zq141
 .have HF:=qh (show P.a6c d p n=(d++p,n,true) by unfold P.a6c;rw [h1];rfl)
  go_enter func256,ntmps256
  go_wp2_with fail
  refine (b5t _ _ _ _ hd hp).mono ?_;rintro e w1 ⟨rfl,hb⟩;obtain⟨hcc,hff⟩:=a8b hb;rw [h1];go_wp2;refine bodyPost_ret (v:=.tuple #[logV (d++p) [] n,.bool true]) (by simp [results,results256,go_sem,hcc]) rfl ⟨by rw [HF.o],?_⟩;exact zq141
theorem d0i (l:Str) (w:World):∃cap w',(convert 9 22 (.string (S l))).run Tryz.prog w=.ok (.slice (some ⟨w.heap.size,0,none⟩) l.length cap) w' /\
 (∀j (h:j<l.length),w'.cell? ⟨w.heap.size,j,none⟩=some (.int .u8 l[j].toNat))/\(∀j,j<l.length->w'.frozen? ⟨w.heap.size,j,none⟩=false)/\Bl w w'/\w.heap.size<w'.heap.size:=by
 have h:=run_bytes_of_string (P:=Tryz.prog) w 9 22 5 (S l) underlying9 underlying22 underlying5
 rw [S_size]at h
 generalize hc:grownCap w l.length 0 5=cap at h
 have hh:(w.drew.alloc (.cells (bytesRow (S l) cap) 5 ((bytesRow (S l) cap).size,(bytesRow (S l) cap).size+1))).heap[w.heap.size]?=some (.cells (bytesRow (S l) cap) 5 ((bytesRow (S l) cap).size,(bytesRow (S l) cap).size+1)):=heap_alloc_new w.drew _
 have hsz:l.length<=(bytesRow (S l) cap).size:=by simp [bytesRow,S]
 refine⟨cap,_,h,?_,?_,?_,?_⟩
 .intro j hj;simp only [World.cell?,hh];have hj':j<(S l).data.size:=by simpa [S] using hj
  have e:(bytesRow (S l) cap)[j]?=some (.int .u8 ((S l).data[j].toNat:Int)):=bytesRow_at (S l) cap j hj';rw [if_neg sZ];rw [e];simp [S]
 .intro j hj;simp only [World.frozen?,hh];simp;omega
 .exact bZ.drew.alloc lZ _
 .show w.heap.size<(w.heap.push _).size;simp
theorem b9w (s:Str) (c:UInt8) (w:World) (hs:s.length<=2^31) (hE:Env w) :
 Cz 69 #[.string (S s),.string ⟨#[c]⟩] w λe w'=>e=.returned (.tuple #[.string (S (Lib.cut s [c]).1),.string (S (Lib.cut s [c]).2.1),.bool (Lib.cut s [c]).2.2])/\∃n,w'=w.drewN n:=e0c s [c] w hs hE
def e1l (k:Nat) (s:Str) (w:World) (e:Ending) (w':World):Prop:=
 e=.returned (.tuple #[.agg #[.string (S (P.decode k s).1.1),.string (S (P.decode k s).1.2)],.int .i64 (P.decode k s).2.1,.bool (P.decode k s).2.2])/\Bl w w'
theorem decode (k:Nat) (s:Str) (w:World) (_:k<2^40) (hs:s.length<=2^28) (hE:Env w) :
 Cz 148 #[.int .i64 k,.string (S s)] w (e1l k s w):=by
 have HE:=qh hE;clear hE
 have hl1:=(P.a8v s [10]).1
 cases h1:(Lib.cut s [10]).2.2
 .have HF:=qh (show P.decode k s=(([],[]),0,false) by unfold P.decode;rw [h1];rfl)
  go_enter func148,ntmps148
  go_wp2_with fail
  refine (b9w _ 10 _ oZ (HE.o.alloc _)).mono ?_;rintro e w1 ⟨rfl,n1,rfl⟩;rw [h1];exact zq104
 .obtain⟨line,hline⟩:∃line,line=(Lib.cut s [10]).1:=⟨_,rfl⟩;rw [<-hline]at hl1
  by_cases h2:(line.length:Int)<=4000
  .obtain⟨tt,htt⟩:∃tt,tt=(Lib.cut line [35]).1:=⟨_,rfl⟩;obtain⟨both,hboth⟩:∃both,both=(Lib.cut tt [32]).2.1:=⟨_,rfl⟩;obtain⟨c,hc⟩:∃c,c=(Lib.cut both [62]).1:=⟨_,rfl⟩;obtain⟨r,hr⟩:∃r,r=(Lib.cut both [62]).2.1:=⟨_,rfl⟩;have hl2:tt.length<=line.length:=by rw [htt];exact (P.a8v _ _).1
   have hl3:both.length<=tt.length:=by rw [hboth];exact (P.a8v _ _).2
   have hl4:c.length<=both.length:=by rw [hc];exact (P.a8v _ _).1
   have hl5:r.length<=both.length:=by rw [hr];exact (P.a8v _ _).2
   have hF:P.decode k s=if ((P.encode k c r).2&&((P.encode k c r).1==line++[10])) then ((c,r),line.length+1,true) else (([],[]),0,false):=by
    unfold P.decode;simp only [<-hline,<-htt,<-hboth,<-hc,<-hr,h1,decide_eq_true h2,Bool.true_and]
   have HF0:=qh hF;clear hF;have HLINE:=qh hline;clear hline;have HTT:=qh htt;clear htt;have HBOTH:=qh hboth;clear hboth;have HC:=qh hc;clear hc;have HR:=qh hr;clear hr
   cases h3:(P.encode k c r).2<;>cases h4:((P.encode k c r).1==line++[10])
   all_goals
    have HF:=qh (show P.decode k s=_ by rw [HF0.o,h3,h4])
    go_enter func148,ntmps148
    go_wp2_with fail
    refine (b9w _ 10 _ oZ (HE.o.alloc _)).mono ?_
    rintro e w1 ⟨rfl,n1,rfl⟩
    rw [h1,<-HLINE.o]
    go_wp2_with fail
    refine (b9w _ 35 _ oZ ((HE.o.alloc _).drewN _)).mono ?_
    rintro e w1 ⟨rfl,n2,rfl⟩
    rw [<-HTT.o]
    go_wp2_with fail
    refine (b9w _ 32 _ oZ ((HE.o.alloc _).drewN _)).mono ?_
    rintro e w1 ⟨rfl,n3,rfl⟩
    rw [<-HBOTH.o]
    go_wp2_with fail
    refine (b9w _ 62 _ oZ ((HE.o.alloc _).drewN _)).mono ?_
    rintro e w1 ⟨rfl,n4,rfl⟩
    rw [<-HC.o,<-HR.o]
    go_wp2_with fail
    refine (b3z _ _ _ _ oZ oZ (((HE.o.alloc _).drewN _).alloc _)).mono ?_
    rintro e w1 ⟨rfl,hb⟩
    rw [h3]
    obtain⟨hcc,hff⟩:=a8b hb
    have HB:=qh hb;clear hb
    have hk0:w1.cell? ⟨w.heap.size,0,none⟩=some (.string (S [])):=by rw [hcc _ _ (by simp;omega)];go_simp
    have hk1:w1.cell? ⟨w.heap.size,1,none⟩=some (.string (S [])):=by rw [hcc _ _ (by simp;omega)];go_simp
    go_wp2
    first
     |refine bodyPost_ret (v:=.tuple #[.agg #[.string (S []),.string (S [])],.int .i64 0,.bool false]) (by simp [results,results148,go_sem,hk0,hk1]) rfl ⟨by rw [HF.o];rfl,?_⟩
     |refine bodyPost_ret (v:=.tuple #[.agg #[.string (S c),.string (S r)],.int .i64 ((line.length:Int)+1),.bool true]) (by simp [results,results148,go_sem,hk0,hk1]) rfl ⟨by rw [HF.o];rfl,?_⟩
    exact ((((below_drewN (bZ.alloc lZ _) _).alloc sZ _).trans (HB.o.mono (by simp;omega))).setCell sZ _).setCell sZ _
  .have HF:=qh (show P.decode k s=(([],[]),0,false) by unfold P.decode;simp only [<-hline,h1,decide_eq_false h2];rfl);have h2':=Int.not_le.1 h2;have HLINE:=qh hline;clear hline h2
   go_enter func148,ntmps148
   go_wp2_with fail
   refine (b9w _ 10 _ oZ (HE.o.alloc _)).mono ?_;rintro e w1 ⟨rfl,n1,rfl⟩;rw [h1,<-HLINE.o];exact zq104
def a5x (l:List Int):List Value:=l.map (Value.int .i64)
def a4n (B:Nat) (w:World) (v:Value) (l:List Int):Prop:=w.ownsRow B 3 1 v l.length (a5x l)
theorem a2o:(Tryz.prog.info? 3).map (λi=>(i.zero,i.size,i.bytes))=some (some (.int .i64 0),1,8):=by kernel_rfl
theorem d7w {w:World} {l:List Int} (h:a4n B w v l):∃a cap,v=.slice a l.length cap:=by
 exact zq59
theorem c2w {w:World} {f:TypeId} {s t:Nat} {u:Value} {m:Nat} {xs ys:List Value} (h:w.ownsRow B e s v n xs) (k:w.ownsRow C f t u m ys) (hne:e≠f):v.ownBlock=none\/v.ownBlock≠u.ownBlock:=by
 rcases h.2 with⟨rfl,_⟩|⟨g,cap,cur,rfl,_,hg,_⟩
 .exact .inl rfl
 .refine .inr (λeq=>?_)
  rcases k.2 with⟨rfl,_⟩|⟨g',cap',cur',rfl,_,hg',_⟩
  .cases eq
  .simp [Value.ownBlock]at eq;subst eq;rw [hg]at hg';injection hg' with hg';injection hg' with _ h2 _;exact hne h2
def c5n (s:Str) (w:World) (e:Ending) (w':World):Prop:=∃v u,e=.returned (.tuple #[v,u])/\a5a w.heap.size w' v (P.readAll s).1/\a4n w.heap.size w' u (P.readAll s).2.1/\Bl w w'
theorem read (s:Str) (w:World) (hs:s.length<=2^28) (hE:Env w) :
 Cz 75 #[.string (S s)] w (c5n s w):=by
 obtain⟨i0,hi,hz0,hz1,hz2⟩:=info_parts c6o
 obtain⟨j0,ji,jz0,jz1,jz2⟩:=info_parts a2o
 have HE:=qh hE;clear hE
 go_enter func75,ntmps75
 go_wp2
 go_loopw [4,5,6] (λv u i wr=>∃(out:List (Str×Str)) (ends:List Int) (a:Nat),a<=s.length/\i=.int .i64 a/\out.length<=60/\ends.length=out.length/\P.runI s (60-out.length) (out,ends,a)=P.readAll s/\a5a w.heap.size wr v out/\a4n w.heap.size wr u ends/\Bl w wr)
  (λ_ _ i _=>s.length-(intOf i).toNat)
 case atStart=>exact⟨[],[],0,Nat.zero_le _,rfl,Nat.zero_le _,rfl,rfl,(World.ownsRow_made _ _ _ lZ dZ (by rfl)).alloc _,by unfold a4n;have h:=World.ownsRow_made (base:=w.heap.size) (e:=3) (size:=1) (w.alloc (.cells #[] 86)) #[] 0 sZ dZ (by rfl);simpa [a5x] using h,(bZ.alloc lZ _).alloc sZ _⟩
 case round=>
  obtain⟨out,ends,a,ha,rfl,ho,hel,hrun,hown,howi,hbel⟩:=hrel;obtain⟨ad,cp,rfl⟩:=b2l hown;obtain⟨ad2,cp2,rfl⟩:=d7w howi;have HEL:=qh hel;clear hel;have HRUN:=qh hrun;clear hrun;have HOWN:=qh hown;clear hown;have HOWI:=qh howi;clear howi;have HBEL:=qh hbel;clear hbel;have hsz:=HBEL.o.size;obtain⟨rest,hrest⟩:∃rest,rest=s.drop a:=⟨_,rfl⟩;have hrl:rest.length+a=s.length:=by rw [hrest];simp;omega
  have HREST:=qh hrest;clear hrest
  go_wp2_with fail
  rw [<-HREST.o];refine (decode _ _ _ oZ oZ (HE.o.below HBEL.o HE.o.size)).mono ?_;rintro e w1 ⟨rfl,hb⟩;obtain⟨hcc,hff⟩:=a8b hb;have hz1':=hb.size;have HB:=qh hb;clear hb
  cases h4:(P.decode out.length rest).2.2
  .have HST:=qh (P.d5q (P.b2k (st:=(out,ends,a)) (s:=s) (by rw [<-HREST.o];exact h4)) (60-out.length));go_wp2;go_ret2;exact⟨.slice ad out.length cp,.slice ad2 ends.length cp2,rfl,by rw [<-HRUN.o,HST.o];exact (a1v HOWN.o HB.o lZ).alloc _,by rw [<-HRUN.o,HST.o];exact (a1v HOWI.o HB.o lZ).alloc _,(HBEL.o.trans (HB.o.mono hsz)).alloc oZ _⟩
  .have hok:=P.a8k _ _ h4;have HST:=qh (P.d1l (P.b9d (st:=(out,ends,a)) (s:=s) (by rw [<-HREST.o];exact h4)) (59-out.length));obtain⟨c,hc⟩:∃c,c=(P.decode out.length rest).1.1:=⟨_,rfl⟩;obtain⟨r,hr⟩:∃r,r=(P.decode out.length rest).1.2:=⟨_,rfl⟩;obtain⟨n,hn⟩:∃n,n=(P.decode out.length rest).2.1:=⟨_,rfl⟩;rw [<-hc,<-hr,<-hn];have hn1:1<=n:=by rw [hn];exact hok.2.1
   have hn2:n<=rest.length:=by rw [hn];exact hok.2.2
   have ho9:=hok.1;have HC:=qh hc;have HR:=qh hr;have HN:=qh hn;clear hc hr hn hok h4
   go_wp2_with (at_builtin;refine wpList_append_own _ rfl (.tmp 29) (.tmp 31) 82 rfl w.heap.size 86 i0 (.agg #[.string ⟨#[]⟩,.string ⟨#[]⟩]) 2 32 underlying82 hi hz0 hz1 hz2 rfl dZ _ _ _ rfl (((a1v HOWN.o HB.o lZ).alloc _).alloc _) ⟨w1.heap.size+1,0,none⟩ 1 1 [.string (S c),.string (S r)] rfl rfl ?c1 ?c2 ?c3 ?c4 ?c5 ?_)
   case c1=>intro j u hj;match j,hj with|0,hj=>(simp at hj;subst hj;simp [Addr.add])|1,hj=>(simp at hj;subst hj;simp [Addr.add])
   case c2=>intro u hu;simp at hu;rcases hu with rfl|rfl<;>rfl
   case c3=>unfold maxLen;omega
   case c4=>omega
   case c5=>simp;omega
   intro v' w2 hown' hgrow _;have R:=qh (c8j (x:=(c,r)) (w1:=w1.alloc _) (by simp;omega) ((a1v HOWN.o HB.o lZ).alloc _) ((HBEL.o.trans (HB.o.mono hsz)).alloc oZ _) hown' hgrow);have hI:a4n w.heap.size w2 (.slice ad2 ends.length cp2) ends:=World.ownsRow.kept (((a1v HOWI.o HB.o lZ).alloc _).alloc _) hgrow (c2w (a1v HOWI.o HB.o lZ) (a1v HOWN.o HB.o lZ) dZ);have HI:=qh hI;have hw2:=R.o.2.size;clear hown' hgrow HOWN HOWI HBEL HB hI hcc hff;obtain⟨ad3,cp3,rfl⟩:=b2l R.o.1
   go_wp2_with (at_builtin;refine wpList_append_own _ rfl (.tmp 33) (.tmp 35) 33 rfl w.heap.size 3 j0 (.int .i64 0) 1 8 underlying33 ji jz0 jz1 jz2 rfl dZ _ _ _ rfl (World.ownsRow.alloc HI.o _) ⟨w2.heap.size,0,none⟩ 1 1 [.int .i64 ((a:Int)+n)] rfl rfl ?d1 ?d2 ?d3 ?d4 ?d5 ?_)
   case d1=>intro j u hj;match j,hj with|0,hj=>(simp at hj;subst hj;simp [Addr.add])
   case d2=>intro u hu;simp at hu;subst hu;rfl
   case d3=>have:=HEL.o;unfold maxLen;omega
   case d4=>have:=HEL.o;omega
   case d5=>simp;omega
   intro v'' w3 howi' hgrow2 _;have hO:a5a w.heap.size w3 (.slice ad3 (out++[(c,r)]).length cp3) (out++[(c,r)]):=World.ownsRow.kept (World.ownsRow.alloc R.o.1 _) hgrow2 (c2w R.o.1 HI.o dZ);have hB:Bl w w3:=(R.o.2.alloc hw2 _).grown hgrow2 (by simp;omega) (λk hk=>(World.ownsRow.lt HI.o k hk).1);have hI2:a4n w.heap.size w3 v'' (ends++[(a:Int)+n]):=by unfold a4n;rw [List.length_append];simpa [a5x] using howi'
   have HO:=qh hO;have HB:=qh hB;have HI2:=qh hI2;clear hO hB hI2 hgrow2 howi' R HI;go_wp2
   go_roundw
   case rel=>exact⟨out++[(c,r)],ends++[(a:Int)+n],a+n,by omega,by go_num,by simp;omega,by simp [HEL.o],by
    rw [<-HRUN.o,show 60-out.length=59-out.length+1 by omega,HST.o,<-HREST.o,<-HN.o,List.length_append,List.length_cons,List.length_nil,show 60-(out.length+(0+1))=59-out.length by omega];rw [show ((c,r):Str×Str)=(P.decode out.length rest).1 by rw [HC.o,HR.o]];rfl,(by have h:=HO.o;rwa [show (out++[(c,r)]).length=out.length+1 by simp]at h),HI2.o,HB.o⟩
   case measure=>exact zq
section
variable {P:Program} (w:World)
def c3q (w:World) (size:Nat) (u:Value) (m:Nat) (news:List Value):Prop:=
 news.length=m*size/\(∀x∈news,x.oneCell'=true)/\((u=.slice none 0 0/\m=0)\/∃ad c,u=.slice (some ad) m c/\∀j x,news[j]?=some x->w.cell? (ad.add j)=some x)
theorem a9r (base:Nat) (t ty e:TypeId) (i:TypeInfo) (z:Value) (size bytes:Nat) (ht:P.underlying t=some (.slice e)) (hi:P.info? e=some i) (hz:i.zero=some z)
 (hsize:i.size=size) (hby:i.bytes=bytes) (hzs:z.cells.size=size) (hsz:0<size)
 (v:Value) (n:Nat) (xs:List Value) (hown:w.ownsRow base e size v n xs)
 (u:Value) (m:Nat) (news:List Value) (hsrc:c3q w size u m news)
 (h63:n+m<=maxLen) (hbytes:(n+m)*bytes<=140737488355328) (hbase:base<=w.heap.size) :
 ∃v' w',(Builtin.append_ #[t,t] ty #[v,u]).run P w=.ok v' w'/\w'.ownsRow base e size v' (n+m) (xs++news)/\w.grownBy w' v.ownBlock /\
  (v'=.slice none 0 0↔v=.slice none 0 0/\m=0):=by
 obtain⟨hl,h1,⟨rfl,rfl⟩|⟨ad,c,rfl,hnews⟩⟩:=hsrc
 .exact zq57
 .exact zq161
theorem a0z {w:World} {ops:Array Oper} {rest:List Oper} {o:Oper} {a:Act} {Q:Exit->Act->World->Prop} (hgd:o.guard=none) (s x:Operand) (t:TypeId)
 (ho:o.op=.call { callee:=.builtin .append,args:=#[s,x],argTypes:=#[t,t] })
 (base:Nat) (e:TypeId) (i:TypeInfo) (z:Value) (size bytes:Nat) (ht:P.underlying t=some (.slice e)) (hi:P.info? e=some i) (hz:i.zero=some z)
 (hsize:i.size=size) (hby:i.bytes=bytes) (hzs:z.cells.size=size) (hsz:0<size)
 (v:Value) (n:Nat) (xs:List Value) (hs:a.eval s=v) (hown:w.ownsRow base e size v n xs)
 (u:Value) (m:Nat) (news:List Value) (hx:a.eval x=u) (hsrc:c3q w size u m news)
 (h63:n+m<=maxLen) (hbytes:(n+m)*bytes<=140737488355328) (hbase:base<=w.heap.size)
 (h:∀v' w',w'.ownsRow base e size v' (n+m) (xs++news)->w.grownBy w' v.ownBlock->(v'=.slice none 0 0↔v=.slice none 0 0/\m=0)->wpList P ops Q rest (a.put o.dst v') w'):wpList P ops Q (o::rest) a w:=
 wpList_plain hgd λ_ hK=>by
  exact zq88
end
end Go.Proofs.YtggfdnopminemaaGreatDoor.L
