/- Plain lemmas for loops over lists. Nothing here speaks of a program. Plain facts about the pure functions: finding a block, is a number in a list, sets of bits. Plain facts about the pure functions: where blocks go on, by the reference and by the graph. Plain facts about the pure functions: what is reached from a block without going through another one, forward and backward. Plain facts about the pure functions: the order of a graph's blocks. Plain facts about the pure functions: the function that is made of a draft. Plain facts about the pure functions: the function that is made of a draft, as a whole. Plain facts about the pure functions: where the blocks of a function that is made of a draft go on. Plain facts about the pure functions: more of sets of bits. Plain facts about the pure functions: which virtual registers have a place. Plain facts about the pure functions: which virtual registers surely have a value at blocks' beginnings: a work list. Plain facts about the pure functions: the work list of what surely has a value. Plain facts about the pure functions: what surely has a value, found out, and the first that may have none. Plain facts about the pure functions: the first virtual register that may have no value. Plain facts about the pure functions: the list of the virtual registers that surely have a value. The pure law AssignWays is true. A draft of bounded bulk has few pieces, of right numbers. The contract of the law AssignWays: its code computes the pure law, and that is true. -/
import Derived.Test.YtjjdblcinoikeaaDoorPM
import Derived.Test.YtjjdblcinoikeaaDoorWayP
import Derived.Lib.RowBridge
import Derived.Test.YtjjdblcinoikeaaDoorPSH
import Derived.Test.YtjjdblcinoikeaaDoorWayX
set_option linter.unusedVariables false
namespace Go.Proofs.YtjjdblcinoikeaaDoor.PL
open Go
theorem idx_ok{α:Type}{xs:List α}{i:Int}{x:α}(h0:0≤i)(h:xs[i.toNat]?=some x):idx xs i=some x:=by
 unfold idx;rw[if_pos h0,h]
theorem zY{α:Type}{xs:List α}{i:Nat}{x:α}(h:xs[i]?=some x):idx xs (i:Int)=some x:=idx_ok (by omega) (by simpa using h)
theorem kL{α:Type}{xs:List α}{i:Nat}{x:α}(h:i<xs.length):setI xs (i:Int) x=some (xs.set i x):=by
 unfold setI;rw[if_pos (by constructor<;>omega)];simp
theorem yQ{α:Type}{xs ys:List α}(h:xs.length+ys.length≤4294967296):app xs ys=some (xs++ys):=by
 unfold app;rw[if_pos h]
theorem mk_nat{α:Type}{n:Nat}{z:α}(h:n≤4294967296):mk (n:Int) z=some (List.replicate n z):=by
 unfold mk;rw[if_pos (by constructor<;>omega)];simp
theorem forN_inv{σ:Type}(I:Nat→σ→Prop)(f:Int→σ→Option σ)(n:Nat)(step: ∀i s,i<n→I i s→ ∃s',f (i:Int) s=some s'∧I (i+1) s'):
  ∀(m i:Nat) (s:σ),i+m=n→I i s→ ∃s',forN m (i:Int) f s=some s'∧I n s':=by
 intro m
 induction m with
 |zero=>intro i s h hI;exact⟨s,rfl,by rw[←h];simpa using hI⟩
 |succ m ih=>
  intro i s h hI
  obtain⟨s1,h1,h2⟩:=step i s (by omega) hI
  obtain⟨s2,h3,h4⟩:=ih (i+1) s1 (by omega) h2
  refine⟨s2,?_,h4⟩
  rw[forN,h1]
  exact h3
theorem yzC{σ:Type}(I:Nat→σ→Prop)(f:Int→σ→Option σ)(n:Nat)(hn:n≤4294967296){s:σ}(h0:I 0 s)(step: ∀i s,i<n→I i s→ ∃s',f (i:Int) s=some s'∧I (i+1) s'):
  ∃s',toN 0 (n:Int) f s=some s'∧I n s':=by
 unfold toN
 rw[if_pos (by constructor<;>omega)]
 simpa using forN_inv I f n step n 0 s (by omega) h0
theorem forE_inv{σ ρ:Type}(I:Nat→σ→Prop)(R:ρ→Prop)(f:Int→σ→Option (Ex σ ρ))(n:Nat)(step: ∀i s,i<n→I i s→(∃s',f (i:Int) s=some (.n s')∧I (i+1) s')∨ ∃v,f (i:Int) s=some (.r v)∧R v):
  ∀(m i:Nat) (s:σ),i+m=n→I i s→(∃s',forE m (i:Int) f s=some (.n s')∧I n s')∨ ∃v,forE m (i:Int) f s=some (.r v)∧R v:=by
 intro m
 induction m with
 |zero=>intro i s h hI;exact .inl ⟨s,rfl,by rw[←h];simpa using hI⟩
 |succ m ih=>
  intro i s h hI
  rcases step i s (by omega) hI with ⟨s1,h1,h2⟩|⟨v,h1,h2⟩
  ·rw[forE,h1]
   exact ih (i+1) s1 (by omega) h2
  ·rw[forE,h1]
   exact .inr ⟨v,rfl,h2⟩
theorem toE_inv{σ ρ:Type}(I:Nat→σ→Prop)(R:ρ→Prop)(f:Int→σ→Option (Ex σ ρ))(n:Nat)(hn:n≤4294967296){s:σ}(h0:I 0 s)(step: ∀i s,i<n→I i s→(∃s',f (i:Int) s=some (.n s')∧I (i+1) s')∨ ∃v,f (i:Int) s=some (.r v)∧R v):
  (∃s',toE 0 (n:Int) f s=some (.n s')∧I n s')∨ ∃v,toE 0 (n:Int) f s=some (.r v)∧R v:=by
 unfold toE
 rw[if_pos (by constructor<;>omega)]
 simpa using forE_inv I R f n step n 0 s (by omega) h0
theorem yD{σ ρ:Type}(I:σ→Prop)(B:σ→Prop)(R:ρ→Prop)(m:σ→Nat)(f:σ→Option (Ex σ ρ))
  (step: ∀s,I s→(∃s',f s=some (.n s')∧I s'∧m s'<m s)∨(∃s',f s=some (.b s')∧B s')∨ ∃v,f s=some (.r v)∧R v):
  ∀(fuel:Nat) (s:σ),I s→m s<fuel→(∃s',loopE fuel f s=some (.n s')∧B s')∨ ∃v,loopE fuel f s=some (.r v)∧R v:=by
 intro fuel
 induction fuel with
 |zero=>intro s _ h;omega
 |succ n ih=>
  intro s hI hm
  rcases step s hI with ⟨s1,h1,h2,h3⟩|⟨s1,h1,h2⟩|⟨v,h1,h2⟩
  ·rw[loopE,h1];exact ih s1 h2 (by omega)
  ·rw[loopE,h1];exact .inl ⟨s1,rfl,h2⟩
  ·rw[loopE,h1];exact .inr ⟨v,rfl,h2⟩
theorem wrap1{n:Nat}(h:n≤4294967296):IntKind.i64.wrap ((n:Int)+1)=((n+1:Nat):Int):=by
 rw[zt (by omega) (by omega)];omega
theorem getAt{α:Type}{xs:List α}{i:Nat}(h:i<xs.length): ∃x,xs[i]?=some x:=⟨xs[i],by simp[h]⟩
theorem loop_fold{α σ ρ:Type}{xs:List α}{f:Int×σ→Option (Ex (Int×σ) ρ)}(g:σ→α→σ)(J:σ→Prop)(hn:xs.length≤4294967296){s0:σ}(h0:J s0)
  (hs: ∀(i:Nat) (x:α) (s:σ),xs[i]?=some x→s=(xs.take i).foldl g s0→J s→f ((i:Int),s)=some (.n (((i+1:Nat):Int),g s x))∧J (g s x)) (he: ∀s,f ((xs.length:Int),s)=some (.b ((xs.length:Int),s))) {fuel:Nat} (hf:xs.length<fuel):
  loopE fuel f (0,s0)=some (.n ((xs.length:Int),xs.foldl g s0)):=by
 have key: ∀(m k:Nat) (s:σ),k+m=xs.length→s=(xs.take k).foldl g s0→J s→ ∀fuel,m<fuel→loopE fuel f ((k:Int),s)=some (.n ((xs.length:Int),xs.foldl g s0)):=by
  intro m
  induction m with
  |zero=>
   intro k s hk h hJ fuel hf
   obtain⟨n,rfl⟩: ∃n,fuel=n+1:=⟨fuel-1,by omega⟩
   have hkn:k=xs.length:=by omega
   subst hkn
   rw[loopE,he,h,List.take_length]
   rfl
  |succ m ih=>
   intro k s hk h hJ fuel hf
   obtain⟨n,rfl⟩: ∃n,fuel=n+1:=⟨fuel-1,by omega⟩
   have hlt:k<xs.length:=by omega
   have hx:xs[k]?=some xs[k]:=by simp[hlt]
   obtain⟨h1,h2⟩:=hs k xs[k] s hx h hJ
   rw[loopE,h1]
   refine ih (k+1) _ (by omega) ?_ h2 n (by omega)
   rw[List.take_add_one,hx,Option.toList_some,List.foldl_append,←h]
   rfl
 simpa using key xs.length 0 s0 (by omega) (by simp) h0 fuel hf
theorem toN_fold{α σ:Type}{xs:List α}{f:Int→σ→Option σ}(g:σ→α→σ)(J:σ→Prop)(hn:xs.length≤4294967296){s0:σ}(h0:J s0)
  (hs: ∀(i:Nat) (x:α) (s:σ),xs[i]?=some x→s=(xs.take i).foldl g s0→J s→f (i:Int) s=some (g s x)∧J (g s x)):toN 0 (xs.length:Int) f s0=some (xs.foldl g s0):=by
 obtain⟨s,h1,h2,_⟩:=yzC (fun i s=>s=(xs.take i).foldl g s0∧J s) f xs.length hn (s:=s0) ⟨by simp,h0⟩ (by
  rintro i s hi ⟨h,hJ⟩
  have hx:xs[i]?=some xs[i]:=by simp[hi]
  obtain⟨h1,h2⟩:=hs i xs[i] s hx h hJ
  refine⟨_,h1,?_,h2⟩
  rw[List.take_add_one,hx,Option.toList_some,List.foldl_append,←h]
  rfl)
 rw[h1,h2,List.take_length]
end Go.Proofs.YtjjdblcinoikeaaDoor.PL
set_option linter.unusedVariables false
set_option linter.unusedSimpArgs false
namespace Go.Proofs.YtjjdblcinoikeaaDoor.PL
open Go
def isFnd(bs:List Bl)(l:ByteArray)(r:Int):Prop:=
 (∃k:Nat,r=k∧(∃b,bs[k]?=some b∧b.label=l)∧ ∀j<k,∀b,bs[j]?=some b→b.label≠l)∨(r= -1∧ ∀(j:Nat) b,bs[j]?=some b→b.label≠l)
theorem yzW{bs:List Bl}{l:ByteArray}{r s:Int}(h:isFnd bs l r)(k:isFnd bs l s):r=s:=by
 rcases h with ⟨a,rfl,⟨b,h1,h2⟩,h3⟩|⟨rfl,h3⟩<;>rcases k with ⟨c,rfl,⟨d,k1,k2⟩,k3⟩|⟨rfl,k3⟩
 ·rcases Nat.lt_trichotomy a c with h|h|h
  ·exact absurd h2 (k3 a h b h1)
  ·rw[h]
  ·exact absurd k2 (h3 c h d k1)
 ·exact absurd h2 (k3 a b h1)
 ·exact absurd k2 (h3 c d k1)
 ·rfl
theorem isFnd_lt{bs:List Bl}{l:ByteArray}{r:Int}(h:isFnd bs l r): -1≤r∧r<(bs.length:Int):=by
 rcases h with ⟨a,rfl,⟨b,h1,h2⟩,h3⟩|⟨rfl,h3⟩
 ·have:=(List.getElem?_eq_some_iff.1 h1).1;omega
 ·omega
theorem find_ref{f:Fnc}(hn:f.blocks.length≤4294967296)(fuel:Nat)(l:ByteArray): ∃r,pz2o fuel f l=some r∧isFnd f.blocks l r:=by
 unfold pz2o
 refine Or.elim (toE_inv (fun i (_:Unit)=> ∀j<i,∀b,f.blocks[j]?=some b→b.label≠l) (fun r=>isFnd f.blocks l r) (fun i _=>pz2n fuel f l i) f.blocks.length hn (s:=()) (by intro j h;omega) ?_) ?_ ?_
 rotate_left
 ·rintro⟨s,h1,h2⟩;rw[h1];exact⟨-1,rfl,.inr ⟨rfl,fun j b h=>h2 j (List.getElem?_eq_some_iff.1 h).1 b h⟩⟩
 ·rintro⟨v,h1,h2⟩;rw[h1];exact⟨v,rfl,h2⟩
 ·intro i s hi hI
  obtain⟨b,hb⟩:=getAt hi
  by_cases c:b.label=l
  ·exact .inr ⟨i,by simp[pz2n,zY hb,c],.inl ⟨i,rfl,⟨b,hb,c⟩,hI⟩⟩
  ·refine .inl ⟨(),by simp[pz2n,zY hb,c],?_⟩
   intro j hj b' hb'
   by_cases e:j=i
   ·subst e;rw[hb] at hb';cases hb';exact c
   ·exact hI j (by omega) b' hb'
theorem find_ir{f:Fnc}(hn:f.blocks.length≤4294967){fuel:Nat}(hf:f.blocks.length<fuel)(l:ByteArray): ∃r,pzp fuel f l=some r∧isFnd f.blocks l r:=by
 unfold pzp pzo
 refine Or.elim (yD (fun x:Int=> ∃i:Nat,x=i∧i≤f.blocks.length∧ ∀j<i,∀b,f.blocks[j]?=some b→b.label≠l) (fun _=> ∀(j:Nat) b,f.blocks[j]?=some b→b.label≠l) (fun r=>isFnd f.blocks l r) (fun x=>f.blocks.length-x.toNat) (fun s=>pzn fuel f.blocks l s) ?_ fuel 0 ⟨0,rfl,by omega,by intro j h;omega⟩ (by simpa using hf)) ?_ ?_
 rotate_left
 ·rintro⟨s,h1,h2⟩;rw[h1];exact⟨-1,rfl,.inr ⟨rfl,h2⟩⟩
 ·rintro⟨v,h1,h2⟩;rw[h1];exact⟨v,rfl,h2⟩
 ·rintro x ⟨i,rfl,hi,hI⟩
  by_cases hlt:i<f.blocks.length
  ·obtain⟨b,hb⟩:=getAt hlt
   have hd:((i:Int)<(f.blocks.length:Int)):=by omega
   by_cases c:b.label=l
   ·exact .inr (.inr ⟨i,by simp[pzn,pzm,zY hb,c,hlt],.inl ⟨i,rfl,⟨b,hb,c⟩,hI⟩⟩)
   ·refine .inl ⟨((i+1:Nat):Int),by rw[←wrap1 (by omega)];simp[pzn,pzm,zY hb,c,hlt],⟨i+1,rfl,by omega,?_⟩,by omega⟩
    intro j hj b' hb'
    by_cases e:j=i
    ·subst e;rw[hb] at hb';cases hb';exact c
    ·exact hI j (by omega) b' hb'
  ·refine .inr (.inl ⟨(i:Int),by simp[pzn,hlt],?_⟩)
   intro j b hb
   have:=(List.getElem?_eq_some_iff.1 hb).1
   exact hI j (by omega) b hb
theorem in_ref{l:List Int}(hn:l.length≤4294967296)(fuel:Nat)(v:Int):pz28 fuel l v=some (decide (v∈l)):=by
 unfold pz28
 refine Or.elim (toE_inv (fun i (_:Unit)=> ∀j<i,l[j]?≠some v) (fun r=>r=decide (v∈l)) (fun i _=>pz27 fuel l v i) l.length hn (s:=()) (by intro j h;omega) ?_) ?_ ?_
 rotate_left
 ·rintro⟨s,h1,h2⟩;rw[h1]
  have:v∉l:=by
   intro h
   obtain⟨j,hj⟩:=List.getElem?_of_mem h
   exact h2 j (List.getElem?_eq_some_iff.1 hj).1 hj
  simp[bindE,this]
 ·rintro⟨w,h1,h2⟩;rw[h1,h2];rfl
 ·intro i s hi hI
  obtain⟨b,hb⟩:=getAt hi
  by_cases c:b=v
  ·refine .inr ⟨true,by simp[pz27,zY hb,c],?_⟩
   have:v∈l:=by rw[←c];exact List.mem_of_getElem? hb
   simp[this]
  ·refine .inl ⟨(),by simp[pz27,zY hb,c],?_⟩
   intro j hj hb'
   by_cases e:j=i
   ·subst e;rw[hb] at hb';cases hb';exact c rfl
   ·exact hI j (by omega) hb'
theorem in_sl{l:List Int}(hn:l.length≤4294967){fuel:Nat}(hf:l.length<fuel)(v:Int):pzs fuel l v=some (decide (v∈l)):=by
 unfold pzs pzr
 refine Or.elim (yD (fun x:Int=> ∃i:Nat,x=i∧i≤l.length∧ ∀j<i,l[j]?≠some v) (fun _=>v∉l) (fun r:Int=>0≤r∧v∈l) (fun x=>l.length-x.toNat) (fun s=>pzq fuel l v s) ?_ fuel 0 ⟨0,rfl,by omega,by intro j h;omega⟩ (by simpa using hf)) ?_ ?_
 rotate_left
 ·rintro⟨s,h1,h2⟩;rw[h1];simp[bindE,h2]
 ·rintro⟨w,h1,h2⟩;rw[h1];simp[bindE,h2.1,h2.2]
 ·rintro x ⟨i,rfl,hi,hI⟩
  by_cases hlt:i<l.length
  ·obtain⟨b,hb⟩:=getAt hlt
   by_cases c:v=b
   ·exact .inr (.inr ⟨i,by simp[pzq,zY hb,c,hlt],by omega,by rw[c];exact List.mem_of_getElem? hb⟩)
   ·refine .inl ⟨((i+1:Nat):Int),by rw[←wrap1 (by omega)];simp[pzq,zY hb,c,hlt],⟨i+1,rfl,by omega,?_⟩,by omega⟩
    intro j hj hb'
    by_cases e:j=i
    ·subst e;rw[hb] at hb';cases hb';exact c rfl
    ·exact hI j (by omega) hb'
  ·refine .inr (.inl ⟨(i:Int),by simp[pzq,hlt],?_⟩)
   intro h
   obtain⟨j,hj⟩:=List.getElem?_of_mem h
   have:=(List.getElem?_eq_some_iff.1 hj).1
   exact hI j (by omega) hj
theorem wrapu{x:Nat}(h:x<18446744073709551616):IntKind.u64.wrap (x:Int)=(x:Int):=by
 simp[IntKind.wrap,IntKind.bits,IntKind.signed,IntKind.min,IntKind.max]
 omega
theorem ofIntNat{a:Nat}(ha:a<18446744073709551616):(BitVec.ofInt 64 (a:Int)).toNat=a:=by
 rw[BitVec.toNat_ofInt];omega
theorem band_nat{a b:Nat}(ha:a<18446744073709551616)(hb:b<18446744073709551616):band .u64 (a:Int) (b:Int)=((a&&&b:Nat):Int):=by
 show IntKind.u64.wrap (((BitVec.ofInt 64 (a:Int)&&&BitVec.ofInt 64 (b:Int)).toNat:Nat):Int)=_
 rw[BitVec.toNat_and,ofIntNat ha,ofIntNat hb,wrapu (Nat.and_lt_two_pow (n:=64) a hb)]
theorem bor_nat{a b:Nat}(ha:a<18446744073709551616)(hb:b<18446744073709551616):bor .u64 (a:Int) (b:Int)=((a|||b:Nat):Int):=by
 show IntKind.u64.wrap (((BitVec.ofInt 64 (a:Int)|||BitVec.ofInt 64 (b:Int)).toNat:Nat):Int)=_
 rw[BitVec.toNat_or,ofIntNat ha,ofIntNat hb,wrapu (Nat.or_lt_two_pow (n:=64) ha hb)]
theorem shr_nat{a k:Nat}(hk:k<64):shr .u64 (a:Int) (k:Int)=some ((a/2^k:Nat):Int):=by
 unfold shr
 rw[if_neg (by omega)]
 have:min ((k:Int).toNat) IntKind.u64.bits=k:=by show min ((k:Int).toNat) 64=k;omega
 rw[this,Int.fdiv_eq_ediv_of_nonneg _ (by exact Int.le_of_lt (Int.pow_pos (by decide)))]
 congr 1
theorem shl_one{k:Nat}(hk:k<64):shl .u64 1 (k:Int)=some ((2^k:Nat):Int):=by
 unfold shl
 rw[if_neg (by omega)]
 have:min ((k:Int).toNat) IntKind.u64.bits=k:=by show min ((k:Int).toNat) 64=k;omega
 have h2:2^k<18446744073709551616:=Nat.pow_lt_pow_right (n:=64) (by decide) hk
 rw[this]
 congr 1
 rw[←wrapu h2]
 simp
theorem tdiv_nat(i:Nat):Int.tdiv (i:Int) 64=((i/64:Nat):Int):=by
 rw[Int.tdiv_eq_ediv_of_nonneg (by omega)];omega
theorem tmod_nat(i:Nat):Int.tmod (i:Int) 64=((i%64:Nat):Int):=by
 rw[Int.tmod_eq_emod_of_nonneg (by omega)];omega
def bV(s:zD)(n:Nat):Prop:=s.n=(n:Int)∧s.words.length=(n+63)/64∧ ∀w∈s.words,0≤w∧w<18446744073709551616
def bH(s:zD)(j:Nat):Bool:=match s.words[j/64]? with|some w=>w.toNat.testBit (j%64)|none=>false
theorem has_ok{s:zD}{n:Nat}(hV:bV s n)(hn:n≤4294967296)(fuel:Nat)(i:Int):pz9 fuel s i=some (decide (0≤i∧i<(n:Int))&&bH s i.toNat):=by
 unfold pz9 pz8
 rw[hV.1]
 by_cases h:0≤i∧i<(n:Int)
 ·obtain⟨k,rfl⟩:=Int.eq_ofNat_of_zero_le h.1
  have hk:k<n:=by omega
  obtain⟨w,hw⟩:=getAt (xs:=s.words) (i:=k/64) (by rw[hV.2.1];omega)
  obtain⟨hw0,hw1⟩:=hV.2.2 w (List.mem_of_getElem? hw)
  obtain⟨a,rfl⟩:=Int.eq_ofNat_of_zero_le hw0
  have ha:a<18446744073709551616:=by omega
  have hd:a/2^(k%64)<18446744073709551616:=Nat.lt_of_le_of_lt (Nat.div_le_self _ _) ha
  have hw':idx s.words (IntKind.wrap .i64 (Int.tdiv (k:Int) 64))=some (a:Int):=by
   rw[tdiv_nat,zt (by omega) (by omega)];exact zY hw
  have hb:=band_nat hd (b:=1) (by decide)
  have hr:decide (band .u64 ((a/2^(k%64):Nat):Int) 1=1)=a.testBit (k%64):=by
   rw[show(1:Int)=((1:Nat):Int) from rfl,hb,Nat.and_one_is_mod,Nat.testBit_eq_decide_div_mod_eq]
   congr 1
   simp only[eq_iff_iff]
   omega
  have hs:=shr_nat (a:=a) (k:=k%64) (by omega)
  rw[←tmod_nat] at hs
  simp only[Option.bind_some,h.1,h.2,decide_true,Bool.and_true,if_true,Bool.true_and,and_self]
  rw[hw']
  simp only[Option.bind_some]
  rw[hs]
  simp only[Option.bind_some,hr]
  simp[bH,hw]
 ·have:(decide (0≤i)&&decide (i<(n:Int)))=false:=by
   simp;omega
  simp only[this,Option.bind_some,h,decide_false,Bool.false_and]
  simp
theorem yzZ{s:zD}{n:Nat}(hV:bV s n)(hn:n≤4294967296)(fuel:Nat)(i:Int):
  (pzb fuel s i=some (false,s)∧ ∀k:Nat,i=k→k<n→bH s k=true)∨
  ∃(k:Nat) (s':zD),i=k∧k<n∧bH s k=false∧pzb fuel s i=some (true,s')∧bV s' n∧ ∀j,bH s' j=(bH s j||decide (j=k)):=by
 unfold pzb
 rw[has_ok hV hn]
 have hin:pz8 fuel s i=some (decide (0≤i∧i<(n:Int))):=by unfold pz8;rw[hV.1];simp
 rw[hin]
 by_cases h:0≤i∧i<(n:Int)
 ·obtain⟨k,rfl⟩:=Int.eq_ofNat_of_zero_le h.1
  have hk:k<n:=by omega
  obtain⟨w,hw⟩:=getAt (xs:=s.words) (i:=k/64) (by rw[hV.2.1];omega)
  obtain⟨hw0,hw1⟩:=hV.2.2 w (List.mem_of_getElem? hw)
  obtain⟨a,rfl⟩:=Int.eq_ofNat_of_zero_le hw0
  have ha:a<18446744073709551616:=by omega
  have hw':idx s.words (IntKind.wrap .i64 (Int.tdiv (k:Int) 64))=some (a:Int):=by
   rw[tdiv_nat,zt (by omega) (by omega)];exact zY hw
  by_cases hb:bH s k=true
  ·left
   refine⟨by simp[h,hb],?_⟩
   intro k' e _;have:k=k':=by omega
   subst this;exact hb
  ·right
   have hb':bH s k=false:=by simpa using hb
   have h2:2^(k%64)<18446744073709551616:=Nat.pow_lt_pow_right (n:=64) (by decide) (by omega)
   have hs:=shl_one (k:=k%64) (by omega)
   rw[←tmod_nat] at hs
   have hset:setI s.words (IntKind.wrap .i64 (Int.tdiv (k:Int) 64)) (bor .u64 (a:Int) ((2^(k%64):Nat):Int))=some (s.words.set (k/64) ((a|||2^(k%64):Nat):Int)):=by
    rw[tdiv_nat,zt (by omega) (by omega),bor_nat ha h2];exact kL (by rw[hV.2.1];omega)
   refine⟨k,⟨s.n,s.words.set (k/64) ((a|||2^(k%64):Nat):Int)⟩,rfl,hk,hb',?_,⟨hV.1,by simp[hV.2.1],?_⟩,?_⟩
   ·have hkn:((k:Int)<(n:Int)):=h.2
    have c0:(decide (0≤(k:Int)∧(k:Int)<(n:Int)))=true:=by simpa using h
    have c1:(true&&bH s ((k:Int)).toNat)=false:=by simpa using hb'
    simp only[Option.bind_some,c0,c1,Bool.not_true,Bool.false_eq_true,if_false]
    rw[hw']
    simp only[Option.bind_some]
    rw[hs]
    simp only[Option.bind_some]
    rw[hset]
    rfl
   ·intro w hwm
    rcases List.mem_or_eq_of_mem_set hwm with hwm|rfl
    ·exact hV.2.2 w hwm
    ·have:=Nat.or_lt_two_pow (n:=64) ha h2
     omega
   ·intro j
    unfold bH
    by_cases e:j/64=k/64
    ·have hl:k/64<s.words.length:=by rw[hV.2.1];omega
     simp only[e,List.getElem?_set_self hl,hw,Int.toNat_natCast,Nat.testBit_or,Nat.testBit_two_pow]
     congr 1
     simp only[decide_eq_decide]
     omega
    ·have:j≠k:=by intro c;subst c;exact e rfl
     rw[List.getElem?_set_ne (by omega)]
     simp[this]
 ·left
  refine⟨by simp[h],?_⟩
  intro k e hk;omega
theorem new_ok{n:Nat}(hn:n≤4294967296)(fuel:Nat): ∃s,pza fuel (n:Int)=some s∧bV s n∧ ∀j,bH s j=false:=by
 have h0:(if 0>(n:Int) then 0 else(n:Int))=n:=by rw[if_neg (by omega)]
 refine⟨⟨n,List.replicate ((n+63)/64) 0⟩,?_,⟨rfl,by simp,?_⟩,?_⟩
 ·unfold pza
  rw[h0,zt (x:=(n:Int)+64) (by omega) (by omega),zt (x:=(n:Int)+64-1) (by omega) (by omega),show(n:Int)+64-1=((n+63:Nat):Int) by omega,tdiv_nat,zt (by omega) (by omega),mk_nat (by omega)]
  rfl
 ·intro w hw
  have:=(List.mem_replicate.1 hw).2
  subst this;omega
 ·intro j
  unfold bH
  simp only[List.getElem?_replicate]
  split
  ·rename_i h
   split at h
   ·cases h;simp
   ·cases h
  ·rfl
end Go.Proofs.YtjjdblcinoikeaaDoor.PL
set_option linter.unusedVariables false
set_option linter.unusedSimpArgs false
namespace Go.Proofs.YtjjdblcinoikeaaDoor.PL
open Go
def fOk(f:Fnc):Prop:=f.blocks.length≤1048576∧ ∀b∈f.blocks,b.code.length≤1048576∧ ∀i∈b.code,i.labels.length≤1048576
def fnd(f:Fnc)(l:ByteArray):Int:=(pz2o 0 f l).getD (-1)
theorem fnd_is{f:Fnc}(hn:fOk f)(l:ByteArray):isFnd f.blocks l (fnd f l):=by
 obtain⟨r,h1,h2⟩:=find_ref (f:=f) (by have:=hn.1;omega) 0 l
 unfold fnd;rw[h1];exact h2
theorem fnd_ref{f:Fnc}(hn:fOk f)(fuel:Nat)(l:ByteArray):pz2o fuel f l=some (fnd f l):=by
 obtain⟨r,h1,h2⟩:=find_ref (f:=f) (by have:=hn.1;omega) fuel l
 rw[h1,yzW h2 (fnd_is hn l)]
theorem fnd_ir{f:Fnc}(hn:fOk f){fuel:Nat}(hf:1048576<fuel)(l:ByteArray):pzp fuel f l=some (fnd f l):=by
 obtain⟨r,h1,h2⟩:=find_ir (f:=f) (by have:=hn.1;omega) (fuel:=fuel) (by have:=hn.1;omega) l
 rw[h1,yzW h2 (fnd_is hn l)]
theorem fnd_lt{f:Fnc}(hn:fOk f)(l:ByteArray): -1≤fnd f l∧fnd f l<(f.blocks.length:Int):=isFnd_lt (fnd_is hn l)
def addT(acc:List Int)(r:Int):List Int:=if 0≤r∧r∉acc then acc++[r] else acc
theorem addT_len(acc:List Int)(r:Int):(addT acc r).length≤acc.length+1:=by
 unfold addT;split<;>simp
def tgl(f:Fnc)(ls:List ByteArray):List Int:=ls.foldl (fun a l=>addT a (fnd f l)) []
theorem tgl_next(f:Fnc){ls:List ByteArray}{i:Nat}{l:ByteArray}(h:ls[i]?=some l):tgl f (ls.take (i+1))=addT (tgl f (ls.take i)) (fnd f l):=by
 unfold tgl
 rw[List.take_add_one,h]
 simp
theorem foldT_len(f:Fnc)(ls:List ByteArray): ∀acc:List Int,(ls.foldl (fun a l=>addT a (fnd f l)) acc).length≤acc.length+ls.length:=by
 induction ls with
 |nil=>intro acc;simp
 |cons l ls ih=>
  intro acc
  have h1:=ih (addT acc (fnd f l))
  have h2:=addT_len acc (fnd f l)
  simp only[List.foldl_cons,List.length_cons]
  omega
theorem tgl_len(f:Fnc)(ls:List ByteArray):(tgl f ls).length≤ls.length:=by simpa [tgl] using foldT_len f ls []
theorem foldT_in{f:Fnc}(hn:fOk f)(ls:List ByteArray): ∀acc:List Int,(∀r∈acc,0≤r∧r<(f.blocks.length:Int))→ ∀r∈ls.foldl (fun a l=>addT a (fnd f l)) acc,0≤r∧r<(f.blocks.length:Int):=by
 induction ls with
 |nil=>intro acc h;exact h
 |cons l ls ih=>
  intro acc h
  refine ih _ ?_
  intro r hr
  change r∈addT acc (fnd f l) at hr
  unfold addT at hr
  split at hr
  ·rename_i c
   rcases List.mem_append.1 hr with hr|hr
   ·exact h r hr
   ·have:=List.mem_singleton.1 hr
    subst this
    exact⟨c.1,(fnd_lt hn l).2⟩
  ·exact h r hr
theorem tgl_in{f:Fnc}(hn:fOk f)(ls:List ByteArray): ∀r∈tgl f ls,0≤r∧r<(f.blocks.length:Int):=foldT_in hn ls [] (by simp)
def lastB(b:Bl):Option Ins:=match b.code[b.code.length-1]? with|some i=>if 20≤i.op∧i.op≤23 then some i else none|none=>none
def tg(f:Fnc)(b:Bl):List Int:=match lastB b with|some i=>tgl f i.labels|none=>[]
theorem lastB_len{f:Fnc}(hn:fOk f){b:Bl}(hb:b∈f.blocks){i:Ins}(h:lastB b=some i):i.labels.length≤1048576:=by
 unfold lastB at h
 split at h
 ·rename_i j hj
  split at h
  ·cases h;exact(hn.2 b hb).2 _ (List.mem_of_getElem? hj)
  ·cases h
 ·cases h
theorem tg_in{f:Fnc}(hn:fOk f)(b:Bl): ∀r∈tg f b,0≤r∧r<(f.blocks.length:Int):=by
 unfold tg
 split
 ·exact tgl_in hn _
 ·simp
theorem tg_len{f:Fnc}(hn:fOk f){b:Bl}(hb:b∈f.blocks):(tg f b).length≤1048576:=by
 unfold tg
 split
 ·rename_i i h
  exact Nat.le_trans (tgl_len _ _) (lastB_len hn hb h)
 ·simp
theorem last_idx{b:Bl}(h:b.code.length≤1048576)(h0:b.code.length≠0): ∃i,b.code[b.code.length-1]?=some i∧idx b.code (IntKind.wrap .i64 ((b.code.length:Int)-1))=some i:=by
 obtain⟨i,hi⟩:=getAt (xs:=b.code) (i:=b.code.length-1) (by omega)
 refine⟨i,hi,?_⟩
 rw[zt (by omega) (by omega),show(b.code.length:Int)-1=((b.code.length-1:Nat):Int) by omega]
 exact zY hi
def TT(f:Fnc)(j:Nat):List Int:=match f.blocks[j]? with|some b=>tg f b|none=>[]
def PP(f:Fnc)(x j:Nat):List Int:=((List.range x).filter (fun k=>decide ((j:Int)∈TT f k))).map (fun(k:Nat)=>(k:Int))
theorem PP_len(f:Fnc)(x j:Nat):(PP f x j).length≤x:=by
 unfold PP
 rw[List.length_map]
 exact Nat.le_trans (List.length_filter_le _ _) (by simp)
theorem PP_next(f:Fnc)(x j:Nat):PP f (x+1) j=PP f x j++if(j:Int)∈TT f x then [(x:Int)] else []:=by
 unfold PP
 rw[List.range_succ,List.filter_append,List.map_append]
 congr 1
 by_cases c:(j:Int)∈TT f x<;>simp[c]
structure NI (f:Fnc) (x:Nat) (acc:List Int) (c9 c10:List (List Int)):Prop where
 l9:c9.length=f.blocks.length
 l10:c10.length=f.blocks.length
 g9: ∀j,j<f.blocks.length→c9[j]?=some (if j=x then acc else if j<x then TT f j else [])
 g10: ∀j:Nat,j<f.blocks.length→c10[j]?=some (PP f x j++if(j:Int)∈acc then [(x:Int)] else [])
theorem new_b2{f:Fnc}(hn:fOk f){fuel:Nat}(hf:1048577<fuel){x:Nat}(hx:x<f.blocks.length){i:Ins}(hi:i.labels.length≤1048576){c9 c10:List (List Int)}(h0:NI f x [] c9 c10):
  ∃d9 d10,NI f x (tgl f i.labels) d9 d10∧ ∃z,loopE fuel (fun s=>pzt fuel f (x:Int) i s.1 s.2.1 s.2.2) (c9,c10,0)=some (.n (d9,d10,z)):=by
 have hn1:=hn.1
 refine Or.elim (yD (fun s:List (List Int)×List (List Int)×Int=> ∃y:Nat,s.2.2=y∧y≤i.labels.length∧NI f x (tgl f (i.labels.take y)) s.1 s.2.1) (fun s=>NI f x (tgl f i.labels) s.1 s.2.1) (fun _:List (List Int)×List (List Int)=>False) (fun s=>i.labels.length-s.2.2.toNat)
  (fun s=>pzt fuel f (x:Int) i s.1 s.2.1 s.2.2) ?_ fuel (c9,c10,0) ⟨0,rfl,by omega,h0⟩ (by simp;omega)) ?_ ?_
 rotate_left
 ·rintro⟨⟨d9,d10,z⟩,h1,h2⟩
  exact⟨d9,d10,h2,z,h1⟩
 ·rintro⟨v,_,h⟩;exact h.elim
 ·rintro⟨a9,a10,q⟩ ⟨y,hq,hy,hI⟩
  simp only at hq hI
  subst hq
  show(∃s',pzt fuel f (x:Int) i a9 a10 (y:Int)=some (.n s')∧_)∨(∃s',pzt fuel f (x:Int) i a9 a10 (y:Int)=some (.b s')∧_)∨_
  unfold pzt
  by_cases hlt:y<i.labels.length
  ·left
   obtain⟨l,hl⟩:=getAt hlt
   have hlen:=tgl_len f (i.labels.take y)
   simp at hlen
   have h9:=hI.g9 x hx
   simp only[if_true] at h9
   have hlt':(y:Int)<(i.labels.length:Int):=by omega
   have hc:=in_sl (l:=tgl f (i.labels.take y)) (by omega) (fuel:=fuel) (by omega) (fnd f l)
   simp only[hlt',decide_true,if_true,zY hl,Option.bind_some,fnd_ir hn (by omega:1048576<fuel),zY h9,hc]
   by_cases c:0≤fnd f l
   ·by_cases d:fnd f l∈tgl f (i.labels.take y)
    ·simp only[c,d,decide_true,if_true,Bool.not_true,Bool.false_eq_true,if_false,Option.bind_some]
     refine⟨_,rfl,⟨y+1,wrap1 (by omega),by omega,?_⟩,?_⟩
     ·rw[tgl_next f hl,addT,if_neg (fun e=>e.2 d)];exact hI
     ·show i.labels.length-(IntKind.i64.wrap ((y:Int)+1)).toNat<i.labels.length-((y:Int)).toNat
      rw[wrap1 (by omega)];omega
    ·obtain⟨k,hk⟩:=Int.eq_ofNat_of_zero_le c
     have hkn:k<f.blocks.length:=by have:=(fnd_lt hn l).2;omega
     have h10:=hI.g10 k hkn
     rw[hk] at d
     have hpl:=PP_len f x k
     simp only[d,if_false,List.append_nil] at h10
     have ha1:app (tgl f (i.labels.take y)) [(k:Int)]=some (tgl f (i.labels.take y)++[(k:Int)]):=yQ (by simp;omega)
     have ha2:app (PP f x k) [(x:Int)]=some (PP f x k++[(x:Int)]):=yQ (by simp;omega)
     have hs1:setI a9 (x:Int) (tgl f (i.labels.take y)++[(k:Int)])=some (a9.set x (tgl f (i.labels.take y)++[(k:Int)])):=kL (by rw[hI.l9];exact hx)
     have hs2:setI a10 (k:Int) (PP f x k++[(x:Int)])=some (a10.set k (PP f x k++[(x:Int)])):=kL (by rw[hI.l10];exact hkn)
     have hk0:(0:Int)≤(k:Int):=by omega
     simp only[hk,hk0,d,decide_true,decide_false,if_true,Bool.not_false,Option.bind_some,ha1,hs1,zY h10,ha2,hs2]
     refine⟨_,rfl,⟨y+1,wrap1 (by omega),by omega,?_⟩,?_⟩
     ·rw[tgl_next f hl,addT,if_pos ⟨c,by rw[hk];exact d⟩,hk]
      refine⟨by simp[hI.l9],by simp[hI.l10],?_,?_⟩
      ·intro j hj
       by_cases e:j=x
       ·subst e;rw[List.getElem?_set_self (by rw[hI.l9];exact hx)];simp
       ·rw[List.getElem?_set_ne (by omega),hI.g9 j hj];simp[e]
      ·intro j hj
       by_cases e:j=k
       ·subst e;rw[List.getElem?_set_self (by rw[hI.l10];exact hj)];simp
       ·rw[List.getElem?_set_ne (by omega),hI.g10 j hj]
        have: ¬((j:Int)=(k:Int)):=by omega
        simp[this]
     ·show i.labels.length-(IntKind.i64.wrap ((y:Int)+1)).toNat<i.labels.length-((y:Int)).toNat
      rw[wrap1 (by omega)];omega
   ·simp only[c,decide_false,if_true,Bool.false_eq_true,if_false,Option.bind_some]
    refine⟨_,rfl,⟨y+1,wrap1 (by omega),by omega,?_⟩,?_⟩
    ·rw[tgl_next f hl,addT,if_neg (fun e=>c e.1)];exact hI
    ·show i.labels.length-(IntKind.i64.wrap ((y:Int)+1)).toNat<i.labels.length-((y:Int)).toNat
     rw[wrap1 (by omega)];omega
  ·right;left
   have hlt': ¬((y:Int)<(i.labels.length:Int)):=by omega
   simp only[hlt',decide_false,Bool.false_eq_true,if_false]
   refine⟨_,rfl,?_⟩
   have:y=i.labels.length:=by omega
   subst this
   simpa using hI
theorem NI_next{f:Fnc}{x:Nat}{d9 d10:List (List Int)}(h:NI f x (TT f x) d9 d10):NI f (x+1) [] d9 d10:=by
 refine⟨h.l9,h.l10,?_,?_⟩
 ·intro j hj
  rw[h.g9 j hj]
  by_cases e:j=x
  ·subst e;simp
  ·by_cases c:j<x
   ·have:j≠x+1:=by omega
    simp[e,c,this,show j<x+1 by omega]
   ·have: ¬j<x+1:=by omega
    simp[e,c,this]
 ·intro j hj
  rw[h.g10 j hj,PP_next]
  simp
theorem last_ok{f:Fnc}(hn:fOk f){b:Bl}(hb:b∈f.blocks)(fuel:Nat):(∃i,lastB b=some i∧pzl fuel b=some (i,true))∨(lastB b=none∧ ∃z,pzl fuel b=some (z,false)):=by
 have hc:=(hn.2 b hb).1
 unfold pzl pzk
 by_cases h0:b.code.length=0
 ·right
  have:lastB b=none:=by
   unfold lastB
   have:b.code=[]:=List.eq_nil_of_length_eq_zero h0
   simp[this]
  exact⟨this,_,by simp[h0];rfl⟩
 ·obtain⟨x,hx,hx'⟩:=last_idx hc h0
  have hp: ¬((b.code.length:Int)=0):=by omega
  simp only[hp,decide_false,Bool.false_eq_true,if_false,hx',Option.bind_some]
  unfold lastB
  rw[hx]
  by_cases c:20≤x.op∧x.op≤23
  ·left;exact⟨x,by simp[c],by simp[c]⟩
  ·right;exact⟨by simp[c],x,by simp only[Option.some.injEq,Prod.mk.injEq,true_and,Bool.and_eq_false_iff,decide_eq_false_iff_not];omega⟩
theorem new_f{f:Fnc}(hn:fOk f){fuel:Nat}(hf:1048577<fuel): ∃g,pzv fuel f=some g∧g.succ.length=f.blocks.length∧g.pred.length=f.blocks.length∧
  (∀j,j<f.blocks.length→g.succ[j]?=some (TT f j))∧ ∀j:Nat,j<f.blocks.length→g.pred[j]?=some (PP f f.blocks.length j):=by
 have hn1:=hn.1
 unfold pzv
 rw[mk_nat (by omega)]
 simp only[Option.bind_some]
 refine Or.elim (yD (fun s:Int×List (List Int)×List (List Int)=> ∃x:Nat,s.1=x∧x≤f.blocks.length∧NI f x [] s.2.1 s.2.2) (fun s=>NI f f.blocks.length [] s.2.1 s.2.2) (fun _:zV=>False) (fun s=>f.blocks.length-s.1.toNat)
  (fun s=>pzu fuel f s.1 s.2.1 s.2.2) ?_ fuel (0,List.replicate f.blocks.length [],List.replicate f.blocks.length []) ⟨0,rfl,by omega,?_⟩ (by simp;omega)) ?_ ?_
 rotate_left
 ·refine⟨by simp,by simp,?_,?_⟩
  ·intro j hj;simp[List.getElem?_replicate,hj]
  ·intro j hj;simp[List.getElem?_replicate,hj,PP]
 ·rintro⟨⟨z,d9,d10⟩,h1,h2⟩
  rw[h1]
  refine⟨⟨d9,d10⟩,rfl,h2.l9,h2.l10,?_,?_⟩
  ·intro j hj
   have:=h2.g9 j hj
   simpa [hj,show j≠f.blocks.length by omega] using this
  ·intro j hj
   simpa using h2.g10 j hj
 ·rintro⟨v,_,h⟩;exact h.elim
 ·rintro⟨q,a9,a10⟩ ⟨x,hq,hx,hI⟩
  simp only at hq hI
  subst hq
  show(∃s',pzu fuel f (x:Int) a9 a10=some (.n s')∧_)∨(∃s',pzu fuel f (x:Int) a9 a10=some (.b s')∧_)∨_
  unfold pzu
  by_cases hlt:x<f.blocks.length
  ·left
   obtain⟨b,hb⟩:=getAt hlt
   have hm:=List.mem_of_getElem? hb
   have hlt':(x:Int)<(f.blocks.length:Int):=by omega
   have hT:TT f x=tg f b:=by unfold TT;rw[hb]
   have done: ∀d9 d10,NI f x (TT f x) d9 d10→((fun s:Int×List (List Int)×List (List Int)=> ∃x:Nat,s.1=x∧x≤f.blocks.length∧NI f x [] s.2.1 s.2.2) (IntKind.i64.wrap ((x:Int)+1),d9,d10)∧f.blocks.length-(IntKind.i64.wrap ((x:Int)+1)).toNat<f.blocks.length-((x:Int)).toNat):=by
    intro d9 d10 h
    rw[wrap1 (by omega)]
    exact⟨⟨x+1,rfl,by omega,NI_next h⟩,by omega⟩
   simp only[hlt',decide_true,if_true,zY hb,Option.bind_some]
   rcases last_ok hn hm fuel with ⟨i,h1,h2⟩|⟨h1,z,h2⟩
   ·obtain⟨d9,d10,h3,z,h4⟩:=new_b2 hn hf hlt (lastB_len hn hm h1) hI
    simp only[h2,Option.bind_some,Bool.not_true,Bool.false_eq_true,if_false,h4,bindE]
    have ht:TT f x=tgl f i.labels:=by rw[hT];unfold tg;rw[h1]
    rw[←ht] at h3
    exact⟨_,rfl,(done d9 d10 h3).1,(done d9 d10 h3).2⟩
   ·simp only[h2,Option.bind_some,Bool.not_false,if_true]
    have ht:TT f x=[]:=by rw[hT];unfold tg;rw[h1]
    have h3:=hI
    rw[←ht] at h3
    exact⟨_,rfl,(done a9 a10 h3).1,(done a9 a10 h3).2⟩
  ·right;left
   have hlt': ¬((x:Int)<(f.blocks.length:Int)):=by omega
   simp only[hlt',decide_false,Bool.false_eq_true,if_false]
   refine⟨_,rfl,?_⟩
   have:x=f.blocks.length:=by omega
   subst this
   exact hI
end Go.Proofs.YtjjdblcinoikeaaDoor.PL
set_option linter.unusedVariables false
set_option linter.unusedSimpArgs false
namespace Go.Proofs.YtjjdblcinoikeaaDoor.PL
open Go
inductive Path (E:Nat→Nat→Prop) (ok:Nat→Prop):Nat→Nat→Prop
 |one {a:Nat}:ok a→Path E ok a a
 |step {a b c:Nat}:ok a→E a b→Path E ok b c→Path E ok a c
theorem Path.fst{E:Nat→Nat→Prop}{ok:Nat→Prop}{a b:Nat}(h:Path E ok a b):ok a:=by cases h<;>assumption
theorem Path.lst{E:Nat→Nat→Prop}{ok:Nat→Prop}{a b:Nat}(h:Path E ok a b):ok b:=by
 induction h with
 |one h=>exact h
 |step _ _ _ ih=>exact ih
theorem Path.snoc{E:Nat→Nat→Prop}{ok:Nat→Prop}{a b c:Nat}(h:Path E ok a b)(e:E b c)(k:ok c):Path E ok a c:=by
 induction h with
 |one h=>exact .step h e (.one k)
 |step h1 h2 _ ih=>exact .step h1 h2 (ih e)
theorem Path.closed{E:Nat→Nat→Prop}{ok:Nat→Prop}{C:Nat→Prop}(hC: ∀a b,C a→E a b→ok b→C b){a b:Nat}(h:Path E ok a b):C a→C b:=by
 induction h with
 |one h=>exact id
 |step h1 h2 h3 ih=>exact fun c=>ih (hC _ _ c h2 h3.fst)
theorem Path.back{E:Nat→Nat→Prop}{ok:Nat→Prop}{C:Nat→Prop}(hC: ∀a b,C b→E a b→ok a→C a){a b:Nat}(h:Path E ok a b):C b→C a:=by
 induction h with
 |one h=>exact id
 |step h1 h2 h3 ih=>exact fun c=>hC _ _ (ih c) h2 h1
section
variable {f:Fnc} (hn:fOk f) {fuel:Nat} (hf:1048577<fuel) {wo:Int}
def EE(f:Fnc)(a b:Nat):Prop:=(b:Int)∈TT f a
def okk(wo:Int)(a:Nat):Prop:=(a:Int)≠wo
theorem TT_lt(hn:fOk f){a b:Nat}(h:EE f a b):b<f.blocks.length:=by
 unfold EE TT at h
 split at h
 ·have:=(tg_in hn _ _ h).2;omega
 ·simp at h
theorem TT_fst{a b:Nat}(h:EE f a b):a<f.blocks.length:=by
 unfold EE TT at h
 split at h
 ·rename_i c;exact(List.getElem?_eq_some_iff.1 c).1
 ·simp at h
theorem TT_in(hn:fOk f){a:Nat}{r:Int}(h:r∈TT f a):0≤r∧r<(f.blocks.length:Int):=by
 unfold TT at h
 split at h
 ·exact tg_in hn _ _ h
 ·simp at h
theorem TT_len(hn:fOk f)(a:Nat):(TT f a).length≤1048576:=by
 unfold TT
 split
 ·rename_i c;exact tg_len hn (List.mem_of_getElem? c)
 ·simp
include hn hf in
include hn hf in
include hn hf in
end
end Go.Proofs.YtjjdblcinoikeaaDoor.PL
set_option linter.unusedVariables false
set_option linter.unusedSectionVars false
set_option linter.unusedSimpArgs false
namespace Go.Proofs.YtjjdblcinoikeaaDoor.PL
open Go
theorem top_wrap{α:Type}(st:List α)(a:α)(h:st.length≤4294967):IntKind.wrap .i64 (((st++[a]).length:Int)-1)=(st.length:Int):=by
 rw[zt (by simp) (by simp;omega)];simp
theorem top_idx{α:Type}(st:List α)(a:α):idx (st++[a]) (st.length:Int)=some a:=zY (by simp)
theorem top_set{α:Type}(st:List α)(a b:α):setI (st++[a]) (st.length:Int) b=some (st++[b]):=by
 rw[kL (by simp)]
 rw[List.set_append]
 simp
theorem top_cut{α:Type}(st:List α)(a:α):sli (st++[a]) 0 (st.length:Int)=some st:=by
 unfold sli
 rw[if_pos (by simp;omega)]
 simp
theorem reverse_ok{l:List Int}(hl:l.length≤1048576){fuel:Nat}(hf:1048577<fuel):pz11 fuel l=some l.reverse:=by
 unfold pz11
 refine Or.elim (yD (fun q:List Int×Int×Int=> ∃i:Nat,q.2.1=i∧q.2.2=(l.length:Int)-1-i∧i≤l.length∧q.1.length=l.length∧ ∀k,k<l.length→q.1[k]?=if k<i∨l.length≤k+i then l[l.length-1-k]? else l[k]?) (fun q=>q.1=l.reverse) (fun _:List Int=>False) (fun q=>l.length-q.2.1.toNat)
  (fun s=>pz10 fuel s.1 s.2.1 s.2.2) ?_ fuel (l,0,IntKind.wrap .i64 ((l.length:Int)-1)) ⟨0,rfl,by simp only[zt (show-9223372036854775808≤(l.length:Int)-1 by omega) (show(l.length:Int)-1≤9223372036854775807 by omega)];omega,by omega,rfl,by
   intro k hk;rw[if_neg (by omega)]⟩ (by simp;omega)) ?_ ?_
 rotate_left
 ·rintro⟨⟨a,b,c⟩,k1,k2⟩
  rw[k1]
  simp only at k2
  rw[←k2]
  rfl
 ·rintro⟨v,_,h⟩;exact h.elim
 ·rintro⟨s,p,q⟩ ⟨i,hp,hq,hi,hs,hk⟩
  simp only at hp hq hs hk
  subst hp;subst hq
  show(∃s',pz10 fuel s (i:Int) ((l.length:Int)-1-i)=some (.n s')∧_)∨(∃s',pz10 fuel s (i:Int) ((l.length:Int)-1-i)=some (.b s')∧_)∨_
  unfold pz10
  by_cases c:2*i+1<l.length
  ·left
   have hc:(i:Int)<(l.length:Int)-1-i:=by omega
   obtain⟨J,hJ⟩: ∃J,J+i+1=l.length:=⟨l.length-1-i,by omega⟩
   have hJ':(l.length:Int)-1-i=(J:Int):=by omega
   obtain⟨xJ,h1⟩:=getAt (xs:=s) (i:=J) (by omega)
   obtain⟨xi,h2⟩:=getAt (xs:=s) (i:=i) (by omega)
   obtain⟨xK,h3⟩:=getAt (xs:=s.set i xJ) (i:=J) (by simp;omega)
   have hs1:setI s (i:Int) xJ=some (s.set i xJ):=kL (by omega)
   have hs2:setI (s.set i xJ) (J:Int) xi=some ((s.set i xJ).set J xi):=kL (by simp;omega)
   have hJi:(i:Int)<(J:Int):=by omega
   simp only[hJ',hJi,decide_true,if_true,zY h1,zY h2,Option.bind_some,hs1,zY h3,hs2]
   refine⟨_,rfl,⟨i+1,wrap1 (by omega),?_,by omega,by simp;omega,?_⟩,?_⟩
   ·show IntKind.i64.wrap ((J:Int)-1)=_
    rw[zt (by omega) (by omega)];omega
   ·intro k hkl
    show((s.set i xJ).set J xi)[k]?=_
    by_cases e:k=J
    ·subst e
     rw[List.getElem?_set_self (by simp;omega),if_pos (by omega),show l.length-1-k=i by omega,←h2,hk i (by omega),if_neg (by omega)]
    ·rw[List.getElem?_set_ne (by omega)]
     by_cases e2:k=i
     ·subst e2
      rw[List.getElem?_set_self (by omega),if_pos (by omega),show l.length-1-k=J by omega,←h1,hk J (by omega),if_neg (by omega)]
     ·rw[List.getElem?_set_ne (by omega),hk k hkl]
      by_cases e3:k<i∨l.length≤k+i
      ·rw[if_pos e3,if_pos (by omega)]
      ·rw[if_neg e3,if_neg (by omega)]
   ·show l.length-(IntKind.i64.wrap ((i:Int)+1)).toNat<l.length-((i:Int)).toNat
    rw[wrap1 (by omega)];omega
  ·right;left
   have hc: ¬((i:Int)<(l.length:Int)-1-i):=by omega
   simp only[hc,decide_false,Bool.false_eq_true,if_false]
   refine⟨_,rfl,?_⟩
   show s=l.reverse
   apply List.ext_getElem?
   intro k
   by_cases hkl:k<l.length
   ·rw[List.getElem?_reverse hkl,hk k hkl]
    split
    ·rfl
    ·rw[show l.length-1-k=k by omega]
   ·rw[List.getElem?_eq_none (by omega),List.getElem?_eq_none (by simp;omega)]
theorem kV: ∀(n:Nat) (l:List Nat),l.Nodup→(∀x∈l,x<n)→l.length≤n
 |0,l,_,h=>by
  cases l with
  |nil=>simp
  |cons x l=>have:=h x (by simp);omega
 |n+1,l,hn,h=>by
  by_cases hm:n∈l
  ·have h1:=kV n (l.erase n) (hn.erase n) (fun x hx=>by
    have h2:=(hn.mem_erase_iff).1 hx
    have:=h x h2.2
    have:=h2.1
    omega)
   rw[List.length_erase_of_mem hm] at h1
   omega
  ·have h1:=kV n l hn (fun x hx=>by
    have:=h x hx
    have:x≠n:=fun e=>hm (e▸hx)
    omega)
   omega
def Bef(l:List Nat)(a b:Nat):Prop:= ∃i j:Nat,i<j∧l[i]?=some a∧l[j]?=some b
theorem Bef.snoc{l:List Nat}{a b x:Nat}(h:Bef l a b):Bef (l++[x]) a b:=by
 obtain⟨i,j,h1,h2,h3⟩:=h
 have hi:=(List.getElem?_eq_some_iff.1 h2).1
 have hj:=(List.getElem?_eq_some_iff.1 h3).1
 exact⟨i,j,h1,by rw[List.getElem?_append_left hi];exact h2,by rw[List.getElem?_append_left hj];exact h3⟩
theorem Bef.last{l:List Nat}{a x:Nat}(h:a∈l):Bef (l++[x]) a x:=by
 obtain⟨i,hi⟩:=List.getElem?_of_mem h
 have hl:=(List.getElem?_eq_some_iff.1 hi).1
 exact⟨i,l.length,hl,by rw[List.getElem?_append_left hl];exact hi,by simp⟩
def cS(h:Nat→Bool)(w:Nat→Nat):Nat→Nat
 |0=>0
 |n+1=>cS h w n+if h n=true then 0 else w n
theorem cS_le{h:Nat→Bool}{w:Nat→Nat}{W:Nat}(hw: ∀j,w j≤W): ∀n,cS h w n≤n*W
 |0=>by simp[cS]
 |n+1=>by
  have:=cS_le hw (h:=h) n
  have:=hw n
  rw[cS,Nat.succ_mul]
  split<;>omega
theorem cS_same{h h':Nat→Bool}{w:Nat→Nat}: ∀n,(∀j,j<n→h' j=h j)→cS h' w n=cS h w n
 |0,_=>rfl
 |n+1,hh=>by rw[cS,cS,cS_same n fun j hj=>hh j (by omega),hh n (by omega)]
theorem cS_add{h h':Nat→Bool}{w:Nat→Nat}{c:Nat}(hc:h c=false)(hh: ∀j,h' j=(h j||decide (j=c))): ∀n,c<n→cS h' w n+w c=cS h w n
 |0,hn=>by omega
 |n+1,hn=>by
  rw[cS,cS]
  by_cases e:c=n
  ·subst e
   have e:=cS_same (h:=h) (h':=h') (w:=w) c (fun j hj=>by
    rw[hh]
    have:j≠c:=by omega
    simp[this])
   rw[e,hh];simp[hc]
  ·have:=cS_add hc hh (w:=w) n (by omega)
   have hn2:h' n=h n:=by
    rw[hh]
    have:n≠c:=by omega
    simp[this]
   rw[hn2];omega
section post
variable {f:Fnc} (hn:fOk f) {fuel:Nat} {g:zV} (h2: ∀j:Nat,j<f.blocks.length→g.succ[j]?=some (TT f j))
def PT(f:Fnc)(a b:Nat):Prop:=Path (EE f) (okk (-1)) a b
theorem okk_all(a:Nat):okk (-1) a:=by unfold okk;omega
theorem PT.refl(f:Fnc)(a:Nat):PT f a a:= .one (okk_all _)
theorem PT.snoc'{a b c:Nat}(h:PT f a b)(e:EE f b c):PT f a c:=Path.snoc h e (okk_all _)
def emb(p:Nat×Nat):A2 Int:=⟨(p.1:Int),(p.2:Int)⟩
def embN(l:List Nat):List Int:=l.map fun(k:Nat)=>(k:Int)
structure PInv (f:Fnc) (w:List Nat) (st:List (Nat×Nat)) (s:zD):Prop where
 V:bV s f.blocks.length
 lt: ∀p∈st,p.1<f.blocks.length∧p.2≤(TT f p.1).length
 wlt: ∀v∈w,v<f.blocks.length
 nd:(w++st.map (·.1)).Nodup
 seen: ∀j,j<f.blocks.length→(bH s j=true↔j∈w∨j∈st.map (·.1))
 cnt: ∀p∈st,∀z,z<p.2→ ∀c:Nat,(TT f p.1)[z]?=some (c:Int)→bH s c=true
 edge: ∀(i:Nat) p q,st[i]?=some p→st[i+1]?=some q→EE f p.1 q.1
 bot:(∃p,st[0]?=some p∧p.1=0)∨(st=[]∧w.getLast?=some 0)
 par: ∀v∈w,v=0∨ ∃p,EE f p v∧(p∈st.map (·.1)∨Bef w v p)
 ed: ∀v∈w,∀c,EE f v c→Bef w c v∨PT f c v
 cl: ∀v∈w,∀c,EE f v c→bH s c=true
 rch: ∀j,j<f.blocks.length→bH s j=true→PT f 0 j
theorem PInv.path{w:List Nat}{st:List (Nat×Nat)}{s:zD}(h:PInv f w st s): ∀(d i:Nat) p q,st[i]?=some p→st[i+d]?=some q→PT f p.1 q.1
 |0,i,p,q,hp,hq=>by
  rw[Nat.add_zero,hp] at hq;cases hq;exact PT.refl _ _
 |d+1,i,p,q,hp,hq=>by
  have hl:i+d<st.length:=by have:=(List.getElem?_eq_some_iff.1 hq).1;omega
  have hr:st[i+d]?=some st[i+d]:=by simp[hl]
  exact(h.path d i p _ hp hr).snoc' (h.edge (i+d) _ q hr hq)
def pm(f:Fnc)(s:List Int×List (A2 Int)×zD):Nat:=cS (bH s.2.2) (fun j=>(TT f j).length+2) f.blocks.length+(s.2.1.map fun p=>(TT f p.a0.toNat).length-p.a1.toNat+1).sum
theorem zzI{α:Type}(l:List α)(x:α)(m:α→Nat):((l++[x]).map m).sum=(l.map m).sum+m x:=by simp
include hn h2 in
theorem post_step{w:List Nat}{st:List (Nat×Nat)}{s:zD}(hI:PInv f w st s):
  (∃w' st' s',pzy fuel g (embN w) (st.map emb) s=some (.n (embN w',st'.map emb,s'))∧PInv f w' st' s'∧pm f (embN w',st'.map emb,s')<pm f (embN w,st.map emb,s))∨
   (st=[]∧pzy fuel g (embN w) (st.map emb) s=some (.b (embN w,[],s))):=by
 have hn1:=hn.1
 have hsl:st.length≤f.blocks.length:=by
  have:=kV f.blocks.length (st.map (·.1)) (List.nodup_append.1 hI.nd).2.1 (fun x hx=>by obtain⟨p,hp,rfl⟩:=List.mem_map.1 hx;exact(hI.lt p hp).1)
  simpa using this
 have hwl:w.length≤f.blocks.length:=kV _ w (List.nodup_append.1 hI.nd).1 hI.wlt
 rcases List.eq_nil_or_concat st with rfl|⟨rho,⟨v,k⟩,rfl⟩
 ·right
  refine⟨rfl,?_⟩
  unfold pzy
  simp
 ·left
  rw[List.concat_eq_append] at hI hsl ⊢
  obtain⟨hv,hk⟩:=hI.lt (v,k) (by simp)
  simp only at hv hk
  have hrl:(rho.map emb).length≤4294967:=by simp at hsl ⊢;omega
  have hmap:(rho++[(v,k)]).map emb=rho.map emb++[(⟨(v:Int),(k:Int)⟩:A2 Int)]:=by simp[emb]
  rw[hmap]
  unfold pzy
  have hp:(0:Int)<((rho.map emb++[(⟨(v:Int),(k:Int)⟩:A2 Int)]).length:Int):=by simp
  have hT:=zY (h2 v hv)
  simp only[hp,decide_true,if_true,top_wrap _ _ hrl,top_idx,Option.bind_some,hT]
  by_cases hke:k=(TT f v).length
  ·-- it is left
   subst hke
   have ha:app (embN w) [(v:Int)]=some (embN (w++[v])):=by rw[yQ (by simp[embN];omega)];simp[embN]
   simp only[decide_true,if_true,top_cut,Option.bind_some,ha]
   have hvw:v∉w:=by
    intro h
    exact(List.nodup_append.1 hI.nd).2.2 v h v (by simp) rfl
   have hnd:((w++[v])++rho.map (·.1)).Nodup:=by
    have h1:=hI.nd
    rw[List.map_append] at h1
    refine(List.Perm.nodup_iff ?_).1 h1
    rw[List.append_assoc]
    exact List.Perm.append_left w List.perm_append_comm
   have hseen: ∀j,j<f.blocks.length→(bH s j=true↔j∈w++[v]∨j∈rho.map (·.1)):=by
    intro j hj
    rw[hI.seen j hj]
    simp only[List.map_append,List.mem_append,List.map_cons,List.map_nil,List.mem_singleton]
    constructor
    ·rintro(h|h|h)
     ·exact .inl (.inl h)
     ·exact .inr h
     ·exact .inl (.inr h)
    ·rintro((h|h)|h)
     ·exact .inl h
     ·exact .inr (.inr h)
     ·exact .inr (.inl h)
   have hcv: ∀c,EE f v c→bH s c=true:=by
    intro c hc
    obtain⟨z,hz⟩:=List.getElem?_of_mem hc
    exact hI.cnt (v,_) (by simp) z (List.getElem?_eq_some_iff.1 hz).1 c hz
   refine⟨w++[v],rho,s,rfl,⟨hI.V,fun p hp=>hI.lt p (by simp[hp]),?_,hnd,hseen,fun p hp=>hI.cnt p (by simp[hp]),?_,?_,?_,?_,?_,hI.rch⟩,?_⟩
   ·intro x hx
    rcases List.mem_append.1 hx with hx|hx
    ·exact hI.wlt x hx
    ·rw[List.mem_singleton.1 hx];exact hv
   ·intro i p q hp hq
    have hp1:=(List.getElem?_eq_some_iff.1 hp).1
    have hq1:=(List.getElem?_eq_some_iff.1 hq).1
    exact hI.edge i p q (by rw[List.getElem?_append_left hp1];exact hp) (by rw[List.getElem?_append_left hq1];exact hq)
   ·rcases List.eq_nil_or_concat rho with rfl|⟨rho',p',rfl⟩
    ·right
     refine⟨rfl,?_⟩
     rcases hI.bot with ⟨p,h1,h2⟩|⟨h1,_⟩
     ·simp at h1
      subst h1
      simp at h2
      subst h2
      simp
     ·simp at h1
    ·left
     rcases hI.bot with ⟨p,h1,h2⟩|⟨h1,_⟩
     ·refine⟨p,?_,h2⟩
      rw[List.getElem?_append_left (by simp)] at h1
      exact h1
     ·simp at h1
   ·intro x hx
    rcases List.mem_append.1 hx with hx|hx
    ·rcases hI.par x hx with h|⟨p,hE,h⟩
     ·exact .inl h
     ·refine .inr ⟨p,hE,?_⟩
      rcases h with h|h
      ·simp only[List.map_append,List.mem_append,List.map_cons,List.map_nil,List.mem_singleton] at h
       rcases h with h|h
       ·exact .inl h
       ·rw[h];exact .inr (Bef.last hx)
      ·exact .inr h.snoc
    ·rw[List.mem_singleton.1 hx]
     rcases List.eq_nil_or_concat rho with rfl|⟨rho',p',e9⟩
     ·left
      rcases hI.bot with ⟨p,h1,h2⟩|⟨h1,_⟩
      ·simp at h1
       subst h1
       exact h2
      ·simp at h1
     ·right
      rw[List.concat_eq_append] at e9
      subst e9
      refine⟨p'.1,hI.edge rho'.length p' (v,(TT f v).length) (by simp) (by simp),.inl (by simp)⟩
   ·intro x hx c hc
    rcases List.mem_append.1 hx with hx|hx
    ·exact(hI.ed x hx c hc).imp (fun h=>h.snoc) id
    ·rw[List.mem_singleton.1 hx] at hc ⊢
     rcases (hI.seen c (TT_lt hn hc)).1 (hcv c hc) with h|h
     ·exact .inl (Bef.last h)
     ·right
      obtain⟨q,hq,rfl⟩:=List.mem_map.1 h
      obtain⟨i,hi⟩:=List.getElem?_of_mem hq
      have hil:=(List.getElem?_eq_some_iff.1 hi).1
      have hl2:i+(rho.length-i)=rho.length:=by simp at hil;omega
      exact hI.path (rho.length-i) i q (v,(TT f v).length) hi (by rw[hl2];simp)
   ·intro x hx c hc
    rcases List.mem_append.1 hx with hx|hx
    ·exact hI.cl x hx c hc
    ·rw[List.mem_singleton.1 hx] at hc
     exact hcv c hc
   ·show cS _ _ _+((rho.map emb).map _).sum<cS _ _ _+((rho.map emb++[_]).map _).sum
    rw[zzI]
    simp
  ·have hkl:k<(TT f v).length:=by omega
   obtain⟨r,hr⟩:=getAt hkl
   obtain⟨hr0,hr1⟩:=TT_in hn (List.mem_of_getElem? hr)
   obtain⟨c,rfl⟩:=Int.eq_ofNat_of_zero_le hr0
   have hc:c<f.blocks.length:=by omega
   have hE:EE f v c:=List.mem_of_getElem? hr
   have hne: ¬((k:Int)=((TT f v).length:Int)):=by omega
   have hlen:=TT_len hn v
   simp only[hne,decide_false,Bool.false_eq_true,if_false,top_set,zY hr,Option.bind_some,wrap1 (show k≤4294967296 by omega)]
   unfold pzx
   have hmp:(rho++[(v,k)]).map (·.1)=(rho++[(v,k+1)]).map (·.1):=by simp
   have emb1:rho.map emb++[(⟨(v:Int),((k+1:Nat):Int)⟩:A2 Int)]=(rho++[(v,k+1)]).map emb:=by simp[emb]
   rcases yzZ hI.V (by omega) fuel (c:Int) with ⟨k1,k2⟩|⟨c',s',e,hc',hb,k1,k3,k4⟩
   ·have hbc:=k2 c rfl hc
    simp only[k1,Option.bind_some,Bool.false_eq_true,if_false]
    refine⟨w,rho++[(v,k+1)],s,by rw[←emb1],⟨hI.V,?_,hI.wlt,by rw[←hmp];exact hI.nd,fun j hj=>by rw[←hmp];exact hI.seen j hj,?_,?_,?_,?_,hI.ed,hI.cl,hI.rch⟩,?_⟩
    ·intro p hp
     rcases List.mem_append.1 hp with hp|hp
     ·exact hI.lt p (by simp[hp])
     ·rw[List.mem_singleton.1 hp];exact⟨hv,by simp;omega⟩
    ·intro p hp z hz c' hc'
     rcases List.mem_append.1 hp with hp|hp
     ·exact hI.cnt p (by simp[hp]) z hz c' hc'
     ·rw[List.mem_singleton.1 hp] at hz hc'
      simp only at hz hc'
      by_cases e:z=k
      ·subst e;rw[hr] at hc';have:=Option.some.inj hc'
       have:c=c':=by omega
       subst this;exact hbc
      ·exact hI.cnt (v,k) (by simp) z (by simp only;omega) c' hc'
    ·intro i p q hp hq
     have hq1:=(List.getElem?_eq_some_iff.1 hq).1
     have key: ∀(j:Nat) (x:Nat×Nat),(rho++[(v,k+1)])[j]?=some x→ ∃y,(rho++[(v,k)])[j]?=some y∧y.1=x.1:=by
      intro j x hx
      by_cases hj:j<rho.length
      ·rw[List.getElem?_append_left hj] at hx;exact⟨x,by rw[List.getElem?_append_left hj];exact hx,rfl⟩
      ·have hj2:=(List.getElem?_eq_some_iff.1 hx).1
       have:j=rho.length:=by simp at hj2;omega
       subst this
       simp at hx;subst hx
       exact⟨(v,k),by simp,rfl⟩
     obtain⟨p',h1,e1⟩:=key i p hp
     obtain⟨q',h2,e2⟩:=key (i+1) q hq
     rw[←e1,←e2];exact hI.edge i p' q' h1 h2
    ·rcases hI.bot with ⟨p,h1,h2⟩|⟨h1,_⟩
     ·left
      by_cases hr0:rho=[]
      ·subst hr0;simp at h1;subst h1;exact⟨(v,k+1),by simp,h2⟩
      ·have hpos:0<rho.length:=List.length_pos_iff.2 hr0
       rw[List.getElem?_append_left hpos] at h1
       exact⟨p,by rw[List.getElem?_append_left hpos];exact h1,h2⟩
     ·simp at h1
    ·intro x hx
     rw[←hmp];exact hI.par x hx
    ·show cS _ _ _+(((rho++[(v,k+1)]).map emb).map _).sum<cS _ _ _+((rho.map emb++[_]).map _).sum
     rw[←emb1,zzI,zzI]
     simp
     omega
   ·have:c'=c:=by omega
    subst this
    have happ:app (rho.map emb++[(⟨(v:Int),((k+1:Nat):Int)⟩:A2 Int)]) [(⟨(c':Int),0⟩:A2 Int)]=some ((rho++[(v,k+1)]++[(c',0)]).map emb):=by
     rw[yQ (by simp;simp at hrl;omega)];simp[emb]
    simp only[k1,Option.bind_some,if_true,happ]
    have hup: ∀j,bH s j=true→bH s' j=true:=fun j h=>by rw[k4 j,h];rfl
    have hcs:bH s' c'=true:=by rw[k4];simp
    have hcn:c'∉w∧c'∉(rho++[(v,k+1)]).map (·.1):=by
     have:=hI.seen c' hc
     rw[hb] at this
     constructor
     ·intro h;exact absurd (this.2 (.inl h)) (by simp)
     ·intro h;rw[←hmp] at h;exact absurd (this.2 (.inr h)) (by simp)
    refine⟨w,rho++[(v,k+1)]++[(c',0)],s',rfl,⟨k3,?_,hI.wlt,?_,?_,?_,?_,?_,?_,hI.ed,fun x hx c hc=>hup c (hI.cl x hx c hc),?_⟩,?_⟩
    ·intro p hp
     rcases List.mem_append.1 hp with hp|hp
     ·rcases List.mem_append.1 hp with hp|hp
      ·exact hI.lt p (by simp[hp])
      ·rw[List.mem_singleton.1 hp];exact⟨hv,by simp;omega⟩
     ·rw[List.mem_singleton.1 hp];exact⟨hc,by simp⟩
    ·rw[List.map_append,←hmp,←List.append_assoc]
     refine List.nodup_append.2 ⟨hI.nd,by simp,?_⟩
     intro a ha b hb2 e9
     rw[List.mem_singleton.1 hb2] at e9
     subst e9
     rcases List.mem_append.1 ha with h|h
     ·exact hcn.1 h
     ·exact hcn.2 (by rw[←hmp];exact h)
    ·intro j hj
     have key:(rho++[(v,k+1)]++[(c',0)]).map (fun p:Nat×Nat=>p.1)=(rho++[(v,k)]).map (fun p:Nat×Nat=>p.1)++[c']:=by simp
     rw[k4 j,Bool.or_eq_true,hI.seen j hj,key]
     simp only[List.mem_append,List.map_cons,List.map_nil,List.mem_singleton,decide_eq_true_eq]
     constructor
     ·rintro((h|h)|h)
      ·exact .inl h
      ·exact .inr (.inl h)
      ·exact .inr (.inr h)
     ·rintro(h|h|h)
      ·exact .inl (.inl h)
      ·exact .inl (.inr h)
      ·exact .inr h
    ·intro p hp z hz c2 hc2
     rcases List.mem_append.1 hp with hp|hp
     ·rcases List.mem_append.1 hp with hp|hp
      ·exact hup _ (hI.cnt p (by simp[hp]) z hz c2 hc2)
      ·rw[List.mem_singleton.1 hp] at hz hc2
       simp only at hz hc2
       by_cases e:z=k
       ·subst e;rw[hr] at hc2;have:=Option.some.inj hc2
        have:c'=c2:=by omega
        subst this;exact hcs
       ·exact hup _ (hI.cnt (v,k) (by simp) z (by simp only;omega) c2 hc2)
     ·rw[List.mem_singleton.1 hp] at hz;simp at hz
    ·intro i p q hp hq
     have key: ∀(j:Nat) (x:Nat×Nat),j<rho.length+1→(rho++[(v,k+1)]++[(c',0)])[j]?=some x→ ∃y,(rho++[(v,k)])[j]?=some y∧y.1=x.1:=by
      intro j x hj hx
      rw[List.getElem?_append_left (by simp;omega)] at hx
      by_cases hj:j<rho.length
      ·rw[List.getElem?_append_left hj] at hx;exact⟨x,by rw[List.getElem?_append_left hj];exact hx,rfl⟩
      ·have:j=rho.length:=by omega
       subst this
       simp at hx;subst hx
       exact⟨(v,k),by simp,rfl⟩
     have hq1:=(List.getElem?_eq_some_iff.1 hq).1
     by_cases hil:i+1<rho.length+1
     ·obtain⟨p',h1,e1⟩:=key i p (by omega) hp
      obtain⟨q',h2,e2⟩:=key (i+1) q hil hq
      rw[←e1,←e2];exact hI.edge i p' q' h1 h2
     ·have:i=rho.length:=by simp at hq1;omega
      subst this
      have e1:p=(v,k+1):=by simpa using hp.symm
      have e2:q=(c',0):=by
       rw[List.getElem?_append_right (by simp)] at hq
       simpa using hq.symm
      subst e1;subst e2
      exact hE
    ·rcases hI.bot with ⟨p,h1,h2⟩|⟨h1,_⟩
     ·left
      by_cases hr0:rho=[]
      ·subst hr0;simp at h1;subst h1;exact⟨(v,k+1),by simp,h2⟩
      ·have hpos:0<rho.length:=List.length_pos_iff.2 hr0
       rw[List.getElem?_append_left hpos] at h1
       exact⟨p,by rw[List.append_assoc,List.getElem?_append_left hpos];exact h1,h2⟩
     ·simp at h1
    ·intro x hx
     rcases hI.par x hx with h|⟨p,hE',h⟩
     ·exact .inl h
     ·refine .inr ⟨p,hE',h.imp (fun h=>?_) id⟩
      rw[List.map_append,←hmp]
      exact List.mem_append_left _ h
    ·intro j hj hbj
     rw[k4 j,Bool.or_eq_true] at hbj
     rcases hbj with h|h
     ·exact hI.rch j hj h
     ·have:j=c':=by simpa using h
      subst this
      refine(hI.rch v hv ?_).snoc' hE
      exact(hI.seen v hv).2 (.inr (by simp))
    ·have hcs2:=cS_add (w:=fun j=>(TT f j).length+2) hb k4 f.blocks.length hc
     show cS _ _ _+(((rho++[(v,k+1)]++[(c',0)]).map emb).map _).sum<cS _ _ _+((rho.map emb++[_]).map _).sum
     have e3:(rho++[(v,k+1)]++[(c',0)]).map emb=(rho.map emb++[(⟨(v:Int),((k+1:Nat):Int)⟩:A2 Int)])++[(⟨(c':Int),0⟩:A2 Int)]:=by simp[emb]
     rw[e3,zzI,zzI,zzI]
     simp at hcs2 ⊢
     omega
structure Post (f:Fnc) (w:List Nat):Prop where
 nd:w.Nodup
 mem: ∀j,j∈w↔PT f 0 j
 last:w.getLast?=some 0
 par: ∀v∈w,v=0∨ ∃p,EE f p v∧Bef w v p
 ed: ∀v∈w,∀c,EE f v c→Bef w c v∨PT f c v
include hn h2 in
theorem post_ok(hg:g.succ.length=f.blocks.length)(hf:17592186044416<fuel)(h0:0<f.blocks.length): ∃w,pzz fuel g=some (embN w)∧Post f w:=by
 have hn1:=hn.1
 obtain⟨s0,e0,hV0,hB0⟩:=new_ok (n:=f.blocks.length) (by omega) fuel
 rcases yzZ hV0 (by omega) fuel 0 with ⟨_,k2⟩|⟨k,s1,k1,_,k3,k4,k5,k6⟩
 ·have:=k2 0 rfl h0
  rw[hB0] at this;cases this
 ·have:k=0:=by omega
  subst this
  have hI0:PInv f [] [(0,0)] s1:=by
   refine⟨k5,?_,by simp,by simp,?_,?_,?_,.inl ⟨(0,0),rfl,rfl⟩,by simp,by simp,by simp,?_⟩
   ·intro p hp;rw[List.mem_singleton.1 hp];exact⟨h0,by simp⟩
   ·intro j hj;rw[k6 j,hB0 j];simp
   ·intro p hp z hz;rw[List.mem_singleton.1 hp] at hz;simp at hz
   ·intro i p q hp hq
    have:=(List.getElem?_eq_some_iff.1 hq).1
    simp at this
   ·intro j hj h
    rw[k6 j,hB0 j] at h
    have:j=0:=by simpa using h
    subst this;exact PT.refl _ _
  unfold pzz pzw pzx
  have ha:app [] [(⟨0,0⟩:A2 Int)]=some ([(0,0)].map emb):=by rw[yQ (by simp)];rfl
  simp only[hg,Option.bind_some,e0,k4,if_true,ha]
  refine Or.elim (yD (fun q:List Int×List (A2 Int)×zD=> ∃w st,q.1=embN w∧q.2.1=st.map emb∧PInv f w st q.2.2) (fun q=> ∃w s,q=(embN w,[],s)∧PInv f w [] s) (fun _:List Int=>False) (pm f)
   (fun s=>pzy fuel g s.1 s.2.1 s.2.2) ?_ fuel ([],[(0,0)].map emb,s1) ⟨[],[(0,0)],rfl,rfl,hI0⟩ ?_) ?_ ?_
  rotate_right
  ·rintro⟨v,_,h⟩;exact h.elim
  ·rintro⟨w,st,s⟩ ⟨w',st',rfl,rfl,hI⟩
   rcases post_step hn h2 (fuel:=fuel) hI with ⟨w1,st1,s1,h1,h3,h4⟩|⟨rfl,h1⟩
   ·exact .inl ⟨_,h1,⟨w1,st1,rfl,rfl,h3⟩,h4⟩
   ·exact .inr (.inl ⟨_,h1,w',s,rfl,hI⟩)
  ·have hw: ∀j,(TT f j).length+2≤1048578:=fun j=>by have:=TT_len hn j;omega
   have h3:=cS_le (h:=bH s1) hw f.blocks.length
   have h4:=TT_len hn 0
   show cS _ _ _+_<fuel
   simp[emb]
   have:f.blocks.length*1048578≤1048576*1048578:=Nat.mul_le_mul_right _ hn1
   omega
  ·rintro⟨q,h1,w,s,rfl,hI⟩
   rw[h1]
   refine⟨w,rfl,by simpa using hI.nd,?_,?_,?_,hI.ed⟩
   ·intro j
    constructor
    ·intro h
     exact hI.rch j (hI.wlt j h) ((hI.seen j (hI.wlt j h)).2 (.inl h))
    ·intro h
     refine Path.closed (C:=fun j=>j∈w) ?_ h ?_
     ·intro a b ha hE _
      have hbl:=TT_lt hn hE
      have:=(hI.seen b hbl).1 (hI.cl a ha b hE)
      simpa using this
     ·rcases hI.bot with ⟨p,h1,_⟩|⟨_,h1⟩
      ·simp at h1
      ·exact List.mem_of_getLast? h1
   ·rcases hI.bot with ⟨p,h1,_⟩|⟨_,h1⟩
    ·simp at h1
    ·exact h1
   ·intro v hv
    rcases hI.par v hv with h|⟨p,hE,h⟩
    ·exact .inl h
    ·refine .inr ⟨p,hE,?_⟩
     simpa using h
include hn h2 in
theorem order_ok(hg:g.succ.length=f.blocks.length)(hf:17592186044416<fuel)(h0:0<f.blocks.length): ∃w,pz1j fuel g=some (embN w.reverse)∧Post f w∧w.length≤f.blocks.length:=by
 have hn1:=hn.1
 obtain⟨w,h1,h3⟩:=post_ok hn h2 hg hf h0
 have hwl:w.length≤f.blocks.length:=kV _ w h3.nd fun x hx=>by
  have:=(h3.mem x).1 hx
  cases this with
  |one _=>exact h0
  |step a b c=>
   have h5: ∀{a b:Nat},PT f a b→a<f.blocks.length→b<f.blocks.length:=by
    intro a b h ha
    exact Path.closed (C:=fun j=>j<f.blocks.length) (fun a b _ hE _=>TT_lt hn hE) h ha
   exact h5 (a:=0) (.step a b c) h0
 refine⟨w,?_,h3,hwl⟩
 unfold pz1j pzw
 have c0: ¬((f.blocks.length:Int)=0):=by omega
 have hr:=reverse_ok (l:=embN w) (by simp[embN];omega) (fuel:=fuel) (by omega)
 simp only[hg,Option.bind_some,c0,decide_false,Bool.false_eq_true,if_false,h1,hr]
 simp[embN]
include hn in
theorem gsucc_ok(hg:g.succ.length=f.blocks.length)(h2: ∀j:Nat,j<f.blocks.length→g.succ[j]?=some (TT f j)){x:Nat}(hx:x<f.blocks.length):pz1b fuel g x=some (TT f x):=by
 have hn1:=hn.1
 have hl:=TT_len hn x
 have ha:app [] (TT f x)=some (TT f x):=by rw[yQ (by simp;omega)];rfl
 have c1: ¬((x:Int)<0):=by omega
 have c2: ¬((f.blocks.length:Int)≤(x:Int)):=by omega
 simp[pz1b,pz1a,pzw,pz19,ix2,A2.at,zY (h2 x hx),ha,hg,c1,c2]
end post
end Go.Proofs.YtjjdblcinoikeaaDoor.PL
set_option linter.unusedVariables false
set_option linter.unusedSimpArgs false
namespace Go.Proofs.YtjjdblcinoikeaaDoor.PL
open Go
def u8(z:Int):Prop:=0≤z∧z<256
def rI(x:DIns):Prop:=u8 x.op∧u8 x.d∧u8 x.a∧u8 x.b
def rB(x:DBl):Prop:=(∀y∈x.code,rI y)∧u8 x.term∧u8 x.a∧u8 x.b∧u8 x.v
def rD(x:Drf):Prop:=u8 x.g∧u8 x.x∧u8 x.params∧ ∀y∈x.blocks,rB y
theorem wrap_u8(z:Int):u8 (IntKind.wrap .u8 z):=by
 unfold u8
 simp[IntKind.wrap,IntKind.bits,IntKind.signed,IntKind.min,IntKind.max]
 omega
theorem zzp{a b:Int}(ha:0≤a)(hb:0<b):0≤Int.tmod a b∧Int.tmod a b<b:=by
 rw[Int.tmod_eq_emod_of_nonneg ha]
 exact⟨Int.emod_nonneg _ (by omega),Int.emod_lt_of_pos _ hb⟩
theorem wrap8{z:Int}(h:u8 z):IntKind.wrap .i64 z=z:=zt (by have:=h.1;omega) (by have:=h.2;omega)
structure Mk (m:zF) (L:Nat):Prop where
 a0:1≤m.ids.a0.length∧m.ids.a0.length≤6
 a1:1≤m.ids.a1.length∧m.ids.a1.length≤3
 has:m.has.length≤L
theorem Mk.at{m:zF}{L:Nat}(h:Mk m L)(c:Bool):1≤(m.ids.at c).length∧(m.ids.at c).length≤6:=by
 cases c
 ·exact h.a0
 ·have:=h.a1;exact⟨this.1,by show m.ids.a1.length≤6;omega⟩
theorem Mk.mono{m:zF}{L L':Nat}(h:Mk m L)(k:L≤L'):Mk m L':=⟨h.a0,h.a1,by have:=h.has;omega⟩
theorem pick_idx{l:List Int}(h:1≤l.length)(h6:l.length≤6){k:Int}(hk:u8 k): ∃x1 x2,rem (IntKind.wrap .i64 k) (l.length:Int)=some x1∧idx l x1=some x2∧x2∈l:=by
 obtain⟨r0,r1⟩:=zzp hk.1 (show(0:Int)<(l.length:Int) by omega)
 obtain⟨n,hn⟩:=Int.eq_ofNat_of_zero_le r0
 obtain⟨y,hy⟩:=getAt (xs:=l) (i:=n) (by omega)
 refine⟨Int.tmod k (l.length:Int),y,?_,?_,List.mem_of_getElem? hy⟩
 ·unfold rem
  rw[if_neg (by omega),wrap8 hk]
 ·rw[hn];exact zY hy
theorem use_ok{m:zF}{L:Nat}(h:Mk m L)(hL:L≤4000000)(fuel:Nat)(c:Bool){k:Int}(hk:u8 k): ∃v,v∈m.ids.at c∧pz29 fuel m (if c=true then 1 else 0) k=some ⟨1,0,v,0⟩:=by
 obtain⟨b1,b2⟩:=h.at c
 obtain⟨x1,x2,e1,e2,e3⟩:=pick_idx b1 b2 hk
 obtain⟨y,hy⟩:=getAt (xs:=m.ids.at c) (i:=0) (by omega)
 have hc:ix2 (if c=true then 1 else 0)=some c:=by cases c<;>rfl
 have hin:=in_ref (l:=m.has) (by have:=h.has;omega) fuel x2
 have e0:idx (m.ids.at c) 0=some y:=zY (i:=0) hy
 unfold pz29 pz25
 simp only[hc,Option.bind_some,e1,e2,hin]
 by_cases hm:x2∈m.has
 ·exact⟨x2,e3,by simp[hm]⟩
 ·exact⟨y,List.mem_of_getElem? hy,by simp[hm,e0]⟩
theorem mgive_ok{m:zF}{L:Nat}(h:Mk m L)(hL:L≤4000000)(fuel:Nat)(c:Bool){k:Int}(hk:u8 k): ∃v m',v∈m.ids.at c∧pz2c fuel m (if c=true then 1 else 0) k=some (⟨1,0,v,0⟩,m')∧Mk m' (L+1)∧m'.f=m.f∧m'.ids=m.ids∧(∀x,x∈m'.has↔x∈m.has∨x=v):=by
 obtain⟨b1,b2⟩:=h.at c
 obtain⟨x1,x2,e1,e2,e3⟩:=pick_idx b1 b2 hk
 have hc:ix2 (if c=true then 1 else 0)=some c:=by cases c<;>rfl
 have hin:=in_ref (l:=m.has) (by have:=h.has;omega) fuel x2
 have hh:=h.has
 unfold pz2c pz25
 simp only[hc,Option.bind_some,e1,e2,hin]
 by_cases hm:x2∈m.has
 ·refine⟨x2,⟨m.f,m.ids,m.has⟩,e3,by simp[hm],⟨h.a0,h.a1,by show m.has.length≤L+1;omega⟩,rfl,rfl,fun x=>⟨.inl,fun q=>q.elim id fun e=>e▸hm⟩⟩
 ·have ha:app m.has [x2]=some (m.has++[x2]):=yQ (by simp;omega)
  refine⟨x2,⟨m.f,m.ids,m.has++[x2]⟩,e3,by simp[hm,ha],⟨h.a0,h.a1,by simp;omega⟩,rfl,rfl,fun x=>by simp⟩
def lab(i:Nat):ByteArray:=match i with
 |0=>⟨#[101,110,116,114,121]⟩
 |1=>⟨#[98,49]⟩|2=>⟨#[98,50]⟩|3=>⟨#[98,51]⟩|4=>⟨#[98,52]⟩|5=>⟨#[98,53]⟩|6=>⟨#[98,54]⟩|7=>⟨#[98,55]⟩|8=>⟨#[98,56]⟩
 |_=>⟨#[98,57]⟩
theorem lab_inj: ∀i,i<10→ ∀j,j<10→lab i=lab j→i=j:=by decide+kernel
theorem label_all: ∀i,i<10→ ∀fuel,pz2a fuel (i:Nat)=some (lab i):=by
 intro i hi fuel
 have:i=0∨i=1∨i=2∨i=3∨i=4∨i=5∨i=6∨i=7∨i=8∨i=9:=by omega
 rcases this with rfl|rfl|rfl|rfl|rfl|rfl|rfl|rfl|rfl|rfl<;>rfl
theorem goal_ok(fuel:Nat){k:Int}(hk:u8 k){n:Nat}(hn:2≤n)(hn9:n≤9): ∃j,1≤j∧j<n∧pz2b fuel k (n:Int)=some (lab j):=by
 obtain⟨r0,r1⟩:=zzp hk.1 (show(0:Int)<(n:Int)-1 by omega)
 obtain⟨q,hq⟩:=Int.eq_ofNat_of_zero_le r0
 refine⟨1+q,by omega,by omega,?_⟩
 unfold pz2b rem
 rw[wrap8 hk,zt (x:=(n:Int)-1) (by omega) (by omega),if_neg (by omega)]
 simp only[Option.bind_some,hq]
 rw[zt (by omega) (by omega),show(1:Int)+(q:Int)=((1+q:Nat):Int) by omega,label_all (1+q) (by omega)]
 rfl
theorem instr_b1{m:zF}{L:Nat}(h:Mk m L)(hL:L≤4000000)(fuel:Nat)(d:DIns)(i:Int){acc:List Opd}(ha:acc.length≤100): ∃o,pz2d fuel m d i acc=some (acc++[o]):=by
 unfold pz2d pz26
 by_cases c:Int.tmod (IntKind.wrap .i64 ((IntKind.wrap .i64 d.n)+i)) 3=0
 ·have:app acc [(⟨4,0,IntKind.wrap .i64 d.n,0⟩:Opd)]=some (acc++[⟨4,0,IntKind.wrap .i64 d.n,0⟩]):=yQ (by simp;omega)
  exact⟨_,by simp[c,this];rfl⟩
 ·obtain⟨v,_,hv⟩:=use_ok h hL fuel false (wrap_u8 (d.a+(IntKind.wrap .u8 ((IntKind.wrap .u8 i)*d.b))))
  have hv':pz29 fuel m 0 (IntKind.wrap .u8 (d.a+(IntKind.wrap .u8 ((IntKind.wrap .u8 i)*d.b))))=some ⟨1,0,v,0⟩:=hv
  have:app acc [(⟨1,0,v,0⟩:Opd)]=some (acc++[⟨1,0,v,0⟩]):=yQ (by simp;omega)
  exact⟨_,by simp[c,hv',this];rfl⟩
theorem minstr_ok{m:zF}{L:Nat}(h:Mk m L)(hL:L≤4000000)(fuel:Nat){d:DIns}(hd:rI d): ∃x m',pz2e fuel m d=some (x,m')∧Mk m' (L+1)∧m'.f=m.f∧m'.ids=m.ids∧x.labels=[]:=by
 obtain⟨hop,hdd,hda,hdb⟩:=hd
 obtain⟨o0,o1⟩:=zzp hop.1 (show(0:Int)<19 by omega)
 have hopw:IntKind.wrap .i64 (1+Int.tmod (IntKind.wrap .i64 d.op) 19)=1+Int.tmod d.op 19:=by rw[wrap8 hop];exact zt (by omega) (by omega)
 have b3:=zzp hdb.1 (show(0:Int)<3 by omega)
 have same: ∀m,Mk m L→Mk m (L+1):=fun m h=>h.mono (by omega)
 have gv: ∀(c:Bool) (k:Int),u8 k→ ∃v m',pz2c fuel m (if c=true then 1 else 0) k=some (⟨1,0,v,0⟩,m')∧Mk m' (L+1)∧m'.f=m.f∧m'.ids=m.ids:=fun c k hk=>by
  obtain⟨v,m',_,h1,h2,h3,h4,_⟩:=mgive_ok h hL fuel c hk
  exact⟨v,m',h1,h2,h3,h4⟩
 have us: ∀(c:Bool) (k:Int),u8 k→ ∃v,pz29 fuel m (if c=true then 1 else 0) k=some ⟨1,0,v,0⟩:=fun c k hk=>by
  obtain⟨v,_,h1⟩:=use_ok h hL fuel c hk
  exact⟨v,h1⟩
 have us0:=fun k hk=>us false k hk
 have us1:=fun k hk=>us true k hk
 have gv0:=fun k hk=>gv false k hk
 simp only[Bool.false_eq_true,if_false] at us0 gv0
 simp only[if_true] at us1
 unfold pz2e
 simp only[hopw]
 by_cases c16:1+Int.tmod d.op 19=16
 ·simp only[c16,decide_true,if_true,pz26,Option.bind_some]
  have hd2:=zzp hdd.1 (show(0:Int)<2 by omega)
  have hq:u8 (IntKind.wrap .u8 (Int.tdiv d.d 2)):=wrap_u8 _
  obtain⟨v,m',g1,g2,g3,g4⟩: ∃v m',pz2c fuel m (Int.tmod (IntKind.wrap .i64 d.d) 2) (IntKind.wrap .u8 (Int.tdiv d.d 2))=some (⟨1,0,v,0⟩,m')∧Mk m' (L+1)∧m'.f=m.f∧m'.ids=m.ids:=by
   rw[wrap8 hdd]
   have:Int.tmod d.d 2=0∨Int.tmod d.d 2=1:=by omega
   rcases this with e|e
   ·rw[e];exact gv false _ hq
   ·rw[e];exact gv true _ hq
  by_cases cb:0<Int.tmod d.b 3
  ·obtain⟨u,hu⟩: ∃u,pz29 fuel m (IntKind.wrap .i64 ((IntKind.wrap .i64 (Int.tmod d.b 3))-1)) d.a=some ⟨1,0,u,0⟩:=by
    rw[zt (x:=Int.tmod d.b 3) (by omega) (by omega),zt (by omega) (by omega)]
    have:Int.tmod d.b 3-1=0∨Int.tmod d.b 3-1=1:=by omega
    rcases this with e|e
    ·rw[e];exact us false _ hda
    ·rw[e];exact us true _ hda
   simp only[cb,decide_true,if_true,hu,Option.bind_some,idx,setI,g1]
   exact⟨_,_,rfl,g2,g3,g4,rfl⟩
  ·simp only[cb,decide_false,Bool.false_eq_true,if_false,Option.bind_some,g1]
   exact⟨_,_,rfl,g2,g3,g4,rfl⟩
 ·simp only[c16,decide_false,Bool.false_eq_true,if_false]
  by_cases c17:1+Int.tmod d.op 19=17
  ·obtain⟨u,hu⟩:=us1 _ hda
   obtain⟨v,m',g1,g2,g3,g4⟩:=gv0 _ hdd
   simp only[c17,decide_true,if_true,hu,g1,Option.bind_some]
   exact⟨_,_,rfl,g2,g3,g4,rfl⟩
  ·simp only[c17,decide_false,Bool.false_eq_true,if_false]
   by_cases c18:1+Int.tmod d.op 19=18
   ·obtain⟨u,hu⟩:=us1 _ hda
    obtain⟨v,hv⟩:=us0 _ hdb
    simp only[c18,decide_true,if_true,hu,hv,Option.bind_some]
    exact⟨_,_,rfl,same _ h,rfl,rfl,rfl⟩
   ·simp only[c18,decide_false,Bool.false_eq_true,if_false]
    by_cases c19:1+Int.tmod d.op 19=19
    ·have ha3:=zzp hda.1 (show(0:Int)<3 by omega)
     have hb4:=zzp hdb.1 (show(0:Int)<4 by omega)
     obtain⟨n3,hn3⟩:=Int.eq_ofNat_of_zero_le ha3.1
     obtain⟨n4,hn4⟩:=Int.eq_ofNat_of_zero_le hb4.1
     obtain⟨nm,hnm⟩:=getAt (xs:=([(⟨#[102]⟩:ByteArray),(⟨#[103]⟩:ByteArray),(⟨#[112,117,116,10]⟩:ByteArray)]:List ByteArray)) (i:=n3) (by simp;omega)
     obtain⟨s,h1,h2⟩:=yzC (fun i (s:List Opd)=>s.length=i) (fun i s=>pz2d fuel m d i s) n4 (by omega) (s:=[]) rfl (by
      intro i s hi hs
      obtain⟨o,ho⟩:=instr_b1 h hL fuel d i (acc:=s) (by omega)
      exact⟨_,ho,by simp[hs]⟩)
     simp only[c19,decide_true,if_true]
     rw[wrap8 hda,wrap8 hdb,hn3,hn4,zY hnm]
     simp only[Option.bind_some,h1]
     by_cases cd:0<Int.tmod d.d 3
     ·obtain⟨v,m',g1,g2,g3,g4⟩:=gv0 _ hdd
      simp only[cd,decide_true,if_true,g1,Option.bind_some]
      exact⟨_,_,rfl,g2,g3,g4,rfl⟩
     ·simp only[cd,decide_false,Bool.false_eq_true,if_false,Option.bind_some]
      exact⟨_,_,rfl,same _ h,rfl,rfl,rfl⟩
    ·simp only[c19,decide_false,Bool.false_eq_true,if_false]
     obtain⟨u,hu⟩:=us0 _ hda
     obtain⟨v,m',g1,g2,g3,g4⟩:=gv0 _ hdd
     simp only[hu,pz26,Option.bind_some]
     by_cases cb:0<Int.tmod d.b 3
     ·obtain⟨w,hw⟩:=us0 _ hdb
      simp only[cb,decide_true,if_true,hw,Option.bind_some,idx,setI,g1]
      exact⟨_,_,rfl,g2,g3,g4,rfl⟩
     ·simp only[cb,decide_false,Bool.false_eq_true,if_false,Option.bind_some,g1]
      exact⟨_,_,rfl,g2,g3,g4,rfl⟩
structure LOk (n i:Nat) (x:Ins):Prop where
 op:20≤x.op∧x.op≤23
 len:x.labels.length≤3
 to: ∀l∈x.labels,∃j,1≤j∧j<n∧l=lab j
 next:i+1<n→lab (i+1)∈x.labels
theorem last_ok'{m:zF}{L:Nat}(h:Mk m L)(hL:L≤4000000)(fuel:Nat){b:DBl}(hb:rB b){n i:Nat}(hn:1≤n)(hn9:n≤9)(hi:i<n): ∃x,pz2f fuel m b (i:Int) (n:Int)=some x∧LOk n i x:=by
 obtain⟨_,ht,hba,hbb,hbv⟩:=hb
 obtain⟨v,_,hv⟩:=use_ok h hL fuel false hbv
 simp only[Bool.false_eq_true,if_false] at hv
 unfold pz2f
 rw[hv,zt (x:=(n:Int)-1) (by omega) (by omega),zt (x:=(i:Int)+1) (by omega) (by omega)]
 simp only[Option.bind_some]
 by_cases c1:((decide ((n:Int)=1))||((decide ((i:Int)=(n:Int)-1))&&(decide ((Int.tmod b.term 3)=0))))=true
 ·rw[if_pos c1]
  have hlast: ¬(i+1<n):=by
   simp at c1
   omega
  by_cases c2:Int.tmod b.v 7=6
  ·simp only[c2,decide_true,if_true,pz26,Option.bind_some]
   exact⟨_,rfl,⟨by simp,by simp,by simp,fun q=>absurd q hlast⟩⟩
  ·simp only[c2,decide_false,Bool.false_eq_true,if_false,Option.bind_some]
   exact⟨_,rfl,⟨by simp,by simp,by simp,fun q=>absurd q hlast⟩⟩
 ·rw[if_neg c1]
  have hn2:2≤n:=by
   simp at c1
   omega
  obtain⟨ja,a1,a2,ha⟩:=goal_ok fuel hba hn2 hn9
  obtain⟨jb,b1,b2,hbg⟩:=goal_ok fuel hbb hn2 hn9
  obtain⟨jn,n1,n2,hnx,hn0⟩: ∃jn,1≤jn∧jn<n∧(if decide ((i:Int)<(n:Int)-1)=true then(pz2a fuel ((i:Int)+1)).bind fun r4=>some r4 else some (lab ja))=some (lab jn)∧(i+1<n→jn=i+1):=by
   by_cases c:i+1<n
   ·refine⟨i+1,by omega,c,?_,fun _=>rfl⟩
    rw[if_pos (by simp;omega),show(i:Int)+1=((i+1:Nat):Int) by omega,label_all (i+1) (by omega)]
    rfl
   ·exact⟨ja,a1,a2,by rw[if_neg (by simp;omega)],fun q=>absurd q c⟩
  simp only[ha,Option.bind_some,hnx,hbg]
  have to2: ∀l∈[lab jn,lab jb],∃j,1≤j∧j<n∧l=lab j:=by
   intro l hl
   simp at hl
   rcases hl with rfl|rfl
   ·exact⟨jn,n1,n2,rfl⟩
   ·exact⟨jb,b1,b2,rfl⟩
  have nx: ∀l:List ByteArray,lab jn∈l→(i+1<n→lab (i+1)∈l):=fun l hl q=>by rw[←hn0 q];exact hl
  have fin: ∀(x:Ins),(20≤x.op∧x.op≤23)→x.labels.length≤3→(∀l∈x.labels,l=lab ja∨l=lab jb∨l=lab jn)→lab jn∈x.labels→LOk n i x:=fun x h1 h2 h3 h4=>
   ⟨h1,h2,fun l hl=>by
    rcases h3 l hl with e|e|e
    ·exact⟨ja,a1,a2,e⟩
    ·exact⟨jb,b1,b2,e⟩
    ·exact⟨jn,n1,n2,e⟩,nx _ h4⟩
  by_cases t0:Int.tmod b.term 4=0
  ·simp only[t0,decide_true,if_true,Option.bind_some]
   by_cases t8:Int.tmod b.term 8<4
   ·simp only[t8,decide_true,if_true,bindE]
    exact⟨_,rfl,fin _ (by simp) (by simp) (by simp) (by simp)⟩
   ·simp only[t8,decide_false,Bool.false_eq_true,if_false,bindE]
    exact⟨_,rfl,fin _ (by simp) (by simp) (by simp) (by simp)⟩
  ·simp only[t0,decide_false,Bool.false_eq_true,if_false,Option.bind_some]
   by_cases t1:Int.tmod b.term 4=1
   ·simp only[t1,decide_true,if_true]
    by_cases t8:Int.tmod b.term 8<4
    ·simp only[t8,decide_true,if_true,bindE]
     exact⟨_,rfl,fin _ (by simp) (by simp) (by simp) (by simp)⟩
    ·simp only[t8,decide_false,Bool.false_eq_true,if_false,bindE]
     exact⟨_,rfl,fin _ (by simp) (by simp) (by simp) (by simp)⟩
   ·simp only[t1,decide_false,Bool.false_eq_true,if_false]
    by_cases t2:Int.tmod b.term 4=2
    ·simp only[t2,decide_true,if_true]
     by_cases v2:Int.tmod b.v 2=0
     ·simp only[v2,decide_true,if_true,sli,bindE]
      exact⟨_,rfl,fin _ (by simp) (by simp) (by simp) (by simp)⟩
     ·simp only[v2,decide_false,Bool.false_eq_true,if_false,Option.bind_some,bindE]
      exact⟨_,rfl,fin _ (by simp) (by simp) (by simp) (by simp)⟩
    ·simp only[t2,decide_false,Bool.false_eq_true,if_false,bindE]
     exact⟨_,rfl,fin _ (by simp) (by simp) (by simp) (by simp)⟩
end Go.Proofs.YtjjdblcinoikeaaDoor.PL
set_option linter.unusedVariables false
set_option linter.unusedSimpArgs false
namespace Go.Proofs.YtjjdblcinoikeaaDoor.PL
open Go
def cntG(d:Drf):Nat:=1+d.g.toNat%6
def cntX(d:Drf):Nat:=1+d.x.toNat%3
def idsG(n:Nat):List Int:=(List.range n).map fun(i:Nat)=>2*(i:Int)
def idsX(n:Nat):List Int:=(List.range n).map fun(i:Nat)=>2*(i:Int)+1
theorem cnt_w{z:Int}(h:u8 z){k:Nat}(hk:0<k)(hk6:k≤6):IntKind.wrap .i64 (1+Int.tmod (IntKind.wrap .i64 z) (k:Int))=((1+z.toNat%k:Nat):Int):=by
 obtain⟨a,rfl⟩:=Int.eq_ofNat_of_zero_le h.1
 have:Int.tmod (a:Int) (k:Int)=((a%k:Nat):Int):=by rw[Int.tmod_eq_emod_of_nonneg (by omega)];omega
 have h2:a%k<k:=Nat.mod_lt _ hk
 rw[wrap8 h,this,zt (by omega) (by omega)]
 simp
theorem make_b1_0{d:Drf}(h:rD d){fuel:Nat}(hf:20<fuel):pz2h fuel d 0 [] []=some (idsG (cntG d),[]):=by
 have hg:=cnt_w h.1 (k:=6) (by decide) (by decide)
 have hg6:d.g.toNat%6<6:=Nat.mod_lt _ (by decide)
 unfold pz2h
 refine Or.elim (yD (fun s:List Int×List Int×Int=> ∃k:Nat,s.2.2=k∧k≤cntG d∧s.1=idsG k∧s.2.1=[]) (fun s=>s.1=idsG (cntG d)∧s.2.1=[]) (fun _:List Int×List Int=>False) (fun s=>cntG d-s.2.2.toNat)
  (fun s=>pz2g fuel d 0 s.1 s.2.1 s.2.2) ?_ fuel ([],[],0) ⟨0,rfl,by omega,rfl,rfl⟩ (by simp[cntG];omega)) ?_ ?_
 rotate_left
 ·rintro⟨⟨a,b,c⟩,h1,h2,h3⟩
  simp only at h2 h3
  subst h2;subst h3
  rw[h1];rfl
 ·rintro⟨v,_,h⟩;exact h.elim
 ·rintro⟨a,b,c⟩ ⟨k,hc,hk,ha,hb⟩
  simp only at hc ha hb
  subst hc;subst ha;subst hb
  have hl:(idsG k).length=k:=by simp[idsG]
  show(∃s',pz2g fuel d 0 (idsG k) [] (k:Int)=some (.n s')∧_)∨(∃s',pz2g fuel d 0 (idsG k) [] (k:Int)=some (.b s')∧_)∨_
  unfold pz2g
  have e0:ix2 0=some false:=rfl
  simp only[e0,Option.bind_some,A2.at,Bool.false_eq_true,if_false]
  rw[show((6:Nat):Int)=6 from rfl] at hg
  rw[hg]
  unfold cntG at hk ⊢
  by_cases c:k<1+d.g.toNat%6
  ·left
   have hw1:IntKind.wrap .i64 (2*(k:Int))=2*(k:Int):=zt (by omega) (by omega)
   have hw2:IntKind.wrap .i64 (2*(k:Int)+0)=2*(k:Int):=by rw[Int.add_zero];exact hw1
   have ha:app (idsG k) [2*(k:Int)]=some (idsG (k+1)):=by rw[yQ (by simp[hl];omega)];simp[idsG,List.range_succ]
   have hlt:((k:Int)<((1+d.g.toNat%6:Nat):Int)):=by omega
   simp only[hlt,decide_true,if_true,hw1,hw2,ha,Option.bind_some,wrap1 (show k≤4294967296 by omega)]
   exact⟨_,rfl,⟨k+1,rfl,by omega,rfl,rfl⟩,by show _-((k+1:Nat):Int).toNat<_-((k:Nat):Int).toNat;omega⟩
  ·right;left
   have hlt: ¬((k:Int)<((1+d.g.toNat%6:Nat):Int)):=by omega
   simp only[hlt,decide_false,Bool.false_eq_true,if_false]
   have:k=1+d.g.toNat%6:=by omega
   subst this
   exact⟨_,rfl,rfl,rfl⟩
theorem make_b1_1{d:Drf}(h:rD d){fuel:Nat}(hf:20<fuel)(l:List Int):pz2h fuel d 1 l []=some (l,idsX (cntX d)):=by
 have hg:=cnt_w h.2.1 (k:=3) (by decide) (by decide)
 have hg6:d.x.toNat%3<3:=Nat.mod_lt _ (by decide)
 unfold pz2h
 refine Or.elim (yD (fun s:List Int×List Int×Int=> ∃k:Nat,s.2.2=k∧k≤cntX d∧s.1=l∧s.2.1=idsX k) (fun s=>s.1=l∧s.2.1=idsX (cntX d)) (fun _:List Int×List Int=>False) (fun s=>cntX d-s.2.2.toNat)
  (fun s=>pz2g fuel d 1 s.1 s.2.1 s.2.2) ?_ fuel (l,[],0) ⟨0,rfl,by omega,rfl,rfl⟩ (by simp[cntX];omega)) ?_ ?_
 rotate_left
 ·rintro⟨⟨a,b,c⟩,h1,h2,h3⟩
  simp only at h2 h3
  subst h2;subst h3
  rw[h1];rfl
 ·rintro⟨v,_,h⟩;exact h.elim
 ·rintro⟨a,b,c⟩ ⟨k,hc,hk,ha,hb⟩
  simp only at hc ha hb
  subst hc;subst ha;subst hb
  have hl:(idsX k).length=k:=by simp[idsX]
  show(∃s',pz2g fuel d 1 _ (idsX k) (k:Int)=some (.n s')∧_)∨(∃s',pz2g fuel d 1 _ (idsX k) (k:Int)=some (.b s')∧_)∨_
  unfold pz2g
  have e0:ix2 1=some true:=rfl
  simp only[e0,Option.bind_some,A2.at,if_true]
  rw[show((3:Nat):Int)=3 from rfl] at hg
  rw[hg]
  unfold cntX at hk ⊢
  by_cases c:k<1+d.x.toNat%3
  ·left
   have hw1:IntKind.wrap .i64 (2*(k:Int))=2*(k:Int):=zt (by omega) (by omega)
   have hw2:IntKind.wrap .i64 (2*(k:Int)+1)=2*(k:Int)+1:=zt (by omega) (by omega)
   have ha:app (idsX k) [2*(k:Int)+1]=some (idsX (k+1)):=by rw[yQ (by simp[hl];omega)];simp[idsX,List.range_succ]
   have hlt:((k:Int)<((1+d.x.toNat%3:Nat):Int)):=by omega
   simp only[hlt,decide_true,if_true,hw1,hw2,ha,Option.bind_some,wrap1 (show k≤4294967296 by omega)]
   exact⟨_,rfl,⟨k+1,rfl,by omega,rfl,rfl⟩,by show _-((k+1:Nat):Int).toNat<_-((k:Nat):Int).toNat;omega⟩
  ·right;left
   have hlt: ¬((k:Int)<((1+d.x.toNat%3:Nat):Int)):=by omega
   simp only[hlt,decide_false,Bool.false_eq_true,if_false]
   have:k=1+d.x.toNat%3:=by omega
   subst this
   exact⟨_,rfl,rfl,rfl⟩
def rgs(d:Drf)(n:Nat):List Rg:=((List.range n).filter fun i=>decide (i/2<if i%2=0 then cntG d else cntX d)).map fun(i:Nat)=>⟨(i:Int),((i%2:Nat):Int)⟩
theorem rgs_len(d:Drf)(n:Nat):(rgs d n).length≤n:=by
 unfold rgs
 rw[List.length_map]
 exact Nat.le_trans (List.length_filter_le _ _) (by simp)
theorem make_b3{d:Drf}(h:rD d)(fuel:Nat){i:Nat}(hi:i<12):pz2i fuel d i (rgs d i)=some (rgs d (i+1)):=by
 have hg:=cnt_w h.1 (k:=6) (by decide) (by decide)
 have hx:=cnt_w h.2.1 (k:=3) (by decide) (by decide)
 rw[show((6:Nat):Int)=6 from rfl] at hg
 rw[show((3:Nat):Int)=3 from rfl] at hx
 have hl:=rgs_len d i
 have ht:Int.tmod (i:Int) 2=((i%2:Nat):Int):=by rw[Int.tmod_eq_emod_of_nonneg (by omega)];omega
 have hd:IntKind.wrap .i64 (Int.tdiv (i:Int) 2)=((i/2:Nat):Int):=by rw[Int.tdiv_eq_ediv_of_nonneg (by omega),zt (by omega) (by omega)];omega
 have hc:ix2 ((i%2:Nat):Int)=some (decide (i%2=1)):=by
  have:i%2=0∨i%2=1:=by omega
  rcases this with e|e<;>rw[e]<;>rfl
 have hnext:rgs d (i+1)=rgs d i++if i/2<(if i%2=0 then cntG d else cntX d) then [⟨(i:Int),((i%2:Nat):Int)⟩] else []:=by
  unfold rgs
  rw[List.range_succ,List.filter_append,List.map_append]
  congr 1
  by_cases c:i/2<(if i%2=0 then cntG d else cntX d)<;>simp[c]
 have hat:(⟨IntKind.wrap .i64 (1+Int.tmod (IntKind.wrap .i64 d.g) 6),IntKind.wrap .i64 (1+Int.tmod (IntKind.wrap .i64 d.x) 3)⟩:A2 Int).at (decide (i%2=1))=(((if i%2=0 then cntG d else cntX d):Nat):Int):=by
  rw[hg,hx]
  have:i%2=0∨i%2=1:=by omega
  rcases this with e|e<;>simp[e,A2.at,cntG,cntX]
 have ha:app (rgs d i) [(⟨(i:Int),((i%2:Nat):Int)⟩:Rg)]=some (rgs d i++[⟨(i:Int),((i%2:Nat):Int)⟩]):=yQ (by simp;omega)
 unfold pz2i
 rw[ht,hd,hc]
 simp only[Option.bind_some,hat]
 rw[hnext]
 by_cases c:i/2<(if i%2=0 then cntG d else cntX d)
 ·have:(((i/2:Nat):Int)<(((if i%2=0 then cntG d else cntX d):Nat):Int)):=by omega
  simp only[this,decide_true,if_true,ha,Option.bind_some,c]
 ·have: ¬(((i/2:Nat):Int)<(((if i%2=0 then cntG d else cntX d):Nat):Int)):=by omega
  simp only[this,decide_false,Bool.false_eq_true,if_false,c,List.append_nil]
theorem make_b4{d:Drf}(h:rD d){fuel:Nat}(hf:20<fuel){l:List Rg}(hl:l.length≤12): ∃i a b c,loopE fuel (fun s=>pz2j fuel d l s.1 s.2.1 s.2.2.1 s.2.2.2) (0,([]:List Opd),([]:List Int),([]:List Ins))=some (.n (i,a,b,c))∧b.length≤12∧c.length≤12∧(∀y∈c,y.labels=[])∧a.length≤12:=by
 refine Or.elim (yD (fun s:Int×List Opd×List Int×List Ins=> ∃k:Nat,s.1=k∧k≤l.length∧s.2.1.length≤k∧s.2.2.1.length≤k∧s.2.2.2.length≤k∧ ∀y∈s.2.2.2,y.labels=[]) (fun s=>s.2.2.1.length≤12∧s.2.2.2.length≤12∧(∀y∈s.2.2.2,y.labels=[])∧s.2.1.length≤12) (fun _:Fnc=>False) (fun s=>l.length-s.1.toNat)
  (fun s=>pz2j fuel d l s.1 s.2.1 s.2.2.1 s.2.2.2) ?_ fuel (0,[],[],[]) ⟨0,rfl,by omega,by simp,by simp,by simp,by simp⟩ (by simp;omega)) ?_ ?_
 rotate_left
 ·rintro⟨⟨a,b,c,e⟩,h1,h2⟩
  exact⟨a,b,c,e,h1,h2⟩
 ·rintro⟨v,_,h⟩;exact h.elim
 ·rintro⟨i,a,b,c⟩ ⟨k,hi,hk,ha,hb,hc,hy⟩
  simp only at hi ha hb hc hy
  subst hi
  show(∃s',pz2j fuel d l (k:Int) a b c=some (.n s')∧_)∨(∃s',pz2j fuel d l (k:Int) a b c=some (.b s')∧_)∨_
  unfold pz2j
  by_cases hlt:k<l.length
  ·left
   obtain⟨x,hx⟩:=getAt hlt
   have hlt':(k:Int)<(l.length:Int):=by omega
   have hr:rem (IntKind.wrap .i64 d.params) (IntKind.wrap .i64 ((l.length:Int)+1))=some (Int.tmod d.params ((l.length:Int)+1)):=by
    unfold rem
    rw[wrap8 h.2.2.1,zt (x:=(l.length:Int)+1) (by omega) (by omega),if_neg (by omega)]
   have hm: ∀k':Nat,k'=k+1→l.length-((k':Nat):Int).toNat<l.length-((k:Nat):Int).toNat:=by intro k' e;omega
   have a1:app a [(⟨1,0,x.id,0⟩:Opd)]=some (a++[⟨1,0,x.id,0⟩]):=yQ (by simp;omega)
   have a2:app b [x.id]=some (b++[x.id]):=yQ (by simp;omega)
   have a3:app c [(⟨16,⟨1,0,x.id,0⟩,[⟨4,0,IntKind.wrap .i64 (3*x.id),0⟩],(⟨#[]⟩:ByteArray),0,[],[]⟩:Ins)]=some (c++[⟨16,⟨1,0,x.id,0⟩,[⟨4,0,IntKind.wrap .i64 (3*x.id),0⟩],(⟨#[]⟩:ByteArray),0,[],[]⟩]):=yQ (by simp;omega)
   simp only[hlt',decide_true,if_true,zY hx,Option.bind_some,hr,pz25,pz26]
   by_cases c1:(k:Int)<Int.tmod d.params ((l.length:Int)+1)
   ·simp only[c1,decide_true,if_true,a1,a2,Option.bind_some,wrap1 (show k≤4294967296 by omega)]
    exact⟨_,rfl,⟨k+1,rfl,by omega,by simp;omega,by simp;omega,by show c.length≤k+1;omega,hy⟩,hm _ rfl⟩
   ·simp only[c1,decide_false,Bool.false_eq_true,if_false]
    by_cases c2:((decide ((k:Int)<2))||(decide ((IntKind.wrap .i64 ((k:Int)+2))<(l.length:Int))))=true
    ·simp only[c2,if_true,a3,a2,Option.bind_some,wrap1 (show k≤4294967296 by omega)]
     exact⟨_,rfl,⟨k+1,rfl,by omega,by show a.length≤k+1;omega,by simp;omega,by simp;omega,by
      intro y hy'
      rcases List.mem_append.1 hy' with h|h
      ·exact hy y h
      ·rw[List.mem_singleton.1 h]⟩,hm _ rfl⟩
    ·rw[if_neg c2]
     simp only[Option.bind_some,wrap1 (show k≤4294967296 by omega)]
     exact⟨_,rfl,⟨k+1,rfl,by omega,by show a.length≤k+1;omega,by show b.length≤k+1;omega,by show c.length≤k+1;omega,hy⟩,hm _ rfl⟩
  ·right;left
   have hlt': ¬((k:Int)<(l.length:Int)):=by omega
   simp only[hlt',decide_false,Bool.false_eq_true,if_false]
   exact⟨_,rfl,by show b.length≤12;omega,by show c.length≤12;omega,hy,by show a.length≤12;omega⟩
structure BOk (n i:Nat) (b:Bl):Prop where
 label:b.label=lab i
 len:b.code.length≤1000013
 last: ∃x,b.code[b.code.length-1]?=some x∧LOk n i x
 labels: ∀y∈b.code,y.labels.length≤3
structure MOk (n:Nat) (f:Fnc):Prop where
 len:f.blocks.length=n
 blk: ∀(i:Nat) b,f.blocks[i]?=some b→BOk n i b
 regs:f.regs.length≤12
 pars:f.params.length≤12
theorem make_ok{d:Drf}(h:rD d)(h9:d.blocks.length≤9)(hc: ∀b∈d.blocks,b.code.length≤1000000){fuel:Nat}(hf:20<fuel): ∃f,pz2m fuel d=some f∧MOk (max d.blocks.length 1) f:=by
 have e1:toN 0 2 (fun i s=>pz2h fuel d i s.1 s.2) (([]:List Int),([]:List Int))=some (idsG (cntG d),idsX (cntX d)):=by
  have b0:=make_b1_0 h hf
  have b1:=make_b1_1 h hf (idsG (cntG d))
  unfold toN
  rw[if_pos (by decide),show((2:Int)-0).toNat=2 from rfl]
  simp only[forN,b0,Option.bind_some]
  rw[show(0:Int)+1=1 from rfl,b1]
  rfl
 obtain⟨rg,e2,e3⟩:=yzC (fun i (s:List Rg)=>s=rgs d i) (fun i s=>pz2i fuel d i s) 12 (by omega) (s:=[]) rfl (by
  rintro i s hi rfl
  exact⟨_,make_b3 h fuel hi,rfl⟩)
 subst e3
 obtain⟨i4,a4,b4,c4,e4,l4,l5,l6,l7⟩:=make_b4 h hf (l:=rgs d 12) (rgs_len d 12)
 have ha:app ([]:List Int) b4=some b4:=by rw[yQ (by simp;omega)];rfl
 have hn:(if 1>(d.blocks.length:Int) then 1 else(d.blocks.length:Int))=((max d.blocks.length 1:Nat):Int):=by
  split<;>omega
 have hn1:1≤max d.blocks.length 1:=by omega
 have hn9:max d.blocks.length 1≤9:=by omega
 have hcg:1≤cntG d∧cntG d≤6:=by unfold cntG;have:d.g.toNat%6<6:=Nat.mod_lt _ (by decide);omega
 have hcx:1≤cntX d∧cntX d≤3:=by unfold cntX;have:d.x.toNat%3<3:=Nat.mod_lt _ (by decide);omega
 generalize hN:max d.blocks.length 1=n at*
 obtain⟨s,e5,e6⟩:=yzC (fun i (s:Bool×ByteArray×(List Rg)×(List Opd)×(List Bl)×(List Int)×(List Int)×(List Int)×(List Ins))=>
   s.2.2.2.2.1.length=i∧(∀(j:Nat) b,s.2.2.2.2.1[j]?=some b→BOk n j b)∧s.2.2.2.2.2.1=idsG (cntG d)∧s.2.2.2.2.2.2.1=idsX (cntX d)∧s.2.2.2.2.2.2.2.2.length≤12∧(∀y∈s.2.2.2.2.2.2.2.2,y.labels=[])∧s.2.2.1.length≤12∧s.2.2.2.1.length≤12)
  (fun i s=>pz2l fuel d b4 i s.1 s.2.1 s.2.2.1 s.2.2.2.1 s.2.2.2.2.1 s.2.2.2.2.2.1 s.2.2.2.2.2.2.1 s.2.2.2.2.2.2.2.1 s.2.2.2.2.2.2.2.2) n (by omega) (s:=(false,(⟨#[102]⟩:ByteArray),rgs d 12,a4,([]:List Bl),idsG (cntG d),idsX (cntX d),b4,c4))
  ⟨rfl,by simp,rfl,rfl,l5,l6,rgs_len d 12,l7⟩ (by
  rintro i ⟨m0,nm,rg,pa,bs,g,x,hs,cd⟩ hi ⟨k1,k2,k3,k4,k5,k6,k7,k8⟩
  simp only at k1 k2 k3 k4 k5 k6 k7 k8
  subst k3;subst k4
  obtain⟨db,hdb,hsel⟩: ∃db:DBl,(rB db∧db.code.length≤1000000)∧(if decide ((i:Int)<(d.blocks.length:Int))=true then(idx d.blocks (i:Int)).bind fun x3=>some (x3.code,x3.term,x3.a,x3.b,x3.v) else some (([]:List DIns),(0:Int),(0:Int),(0:Int),(0:Int)))=some (db.code,db.term,db.a,db.b,db.v):=by
   by_cases c:i<d.blocks.length
   ·obtain⟨b,hb⟩:=getAt c
    exact⟨b,⟨h.2.2.2 b (List.mem_of_getElem? hb),hc b (List.mem_of_getElem? hb)⟩,by rw[if_pos (by simp;omega),zY hb];rfl⟩
   ·refine⟨⟨[],0,0,0,0⟩,⟨⟨by simp,⟨by decide,by decide⟩,⟨by decide,by decide⟩,⟨by decide,by decide⟩,⟨by decide,by decide⟩⟩,by simp⟩,?_⟩
    rw[if_neg (by simp;omega)]
  obtain⟨⟨m2,cd2⟩,q1,q2⟩:=yzC (fun j (s:zF×List Ins)=>Mk s.1 (12+j)∧s.1.f=(⟨m0,nm,rg,pa,bs⟩:Fnc)∧s.1.ids=⟨idsG (cntG d),idsX (cntX d)⟩∧s.2.length≤12+j∧ ∀y∈s.2,y.labels=[])
   (fun j s=>pz2k fuel db.code j s.1 s.2) db.code.length (by have:=hdb.2;omega) (s:=((⟨(⟨m0,nm,rg,pa,bs⟩:Fnc),(⟨idsG (cntG d),idsX (cntX d)⟩:A2 (List Int)),b4⟩:zF),cd))
   ⟨⟨by simp[idsG];exact hcg,by simp[idsX];exact hcx,l4⟩,rfl,rfl,k5,k6⟩ (by
   rintro j ⟨m,c⟩ hj ⟨p1,p2,p3,p4,p5⟩
   simp only at p1 p2 p3 p4 p5
   obtain⟨y,hy⟩:=getAt hj
   have hdl:=hdb.2
   obtain⟨x,m',r1,r2,r3,r4,r5⟩:=minstr_ok p1 (by omega) fuel (hdb.1.1 y (List.mem_of_getElem? hy))
   have ha':app c [x]=some (c++[x]):=yQ (by simp;omega)
   refine⟨(m',c++[x]),?_,r2,r3.trans p2,r4.trans p3,by simp;omega,?_⟩
   ·show pz2k fuel db.code (j:Int) m c=_
    unfold pz2k
    simp only[zY hy,Option.bind_some,r1,ha']
   ·intro z hz
    rcases List.mem_append.1 hz with hz|hz
    ·exact p5 z hz
    ·rw[List.mem_singleton.1 hz];exact r5)
  obtain⟨p1,p2,p3,p4,p5⟩:=q2
  simp only at p1 p2 p3 p4 p5
  have hdl:=hdb.2
  obtain⟨x,r1,r2⟩:=last_ok' p1 (by omega) fuel hdb.1 hn1 hn9 hi
  have ha1:app cd2 [x]=some (cd2++[x]):=yQ (by simp;omega)
  have ha2:app m2.f.blocks [(⟨lab i,false,([]:List Opd),cd2++[x]⟩:Bl)]=some (bs++[⟨lab i,false,[],cd2++[x]⟩]):=by rw[p2,yQ (by simp;omega)]
  refine⟨(m2.f.machine,m2.f.name,m2.f.regs,m2.f.params,bs++[⟨lab i,false,[],cd2++[x]⟩],m2.ids.a0,m2.ids.a1,m2.has,[]),?_,by simp[k1],?_,by rw[p3],by rw[p3],by simp,by simp,by rw[p2];exact k7,by rw[p2];exact k8⟩
  ·show pz2l fuel d b4 (i:Int) m0 nm rg pa bs (idsG (cntG d)) (idsX (cntX d)) hs cd=_
   unfold pz2l
   rw[hsel,hn]
   simp only[Option.bind_some,ha,q1,r1,ha1,label_all i (by omega),ha2]
  ·intro j b hb
   simp only at hb
   by_cases hj:j<bs.length
   ·rw[List.getElem?_append_left hj] at hb
    exact k2 j b hb
   ·have hjl:=(List.getElem?_eq_some_iff.1 hb).1
    have:j=bs.length:=by simp at hjl;omega
    subst this
    simp at hb
    subst hb
    rw[k1]
    refine⟨rfl,by simp;omega,⟨x,by simp,r2⟩,?_⟩
    intro y hy
    rcases List.mem_append.1 hy with hy|hy
    ·rw[p5 y hy];simp
    ·rw[List.mem_singleton.1 hy];exact r2.len)
 obtain⟨s0,s1,s2,s3,s4,s5,s6,s7,s8⟩:=s
 refine⟨⟨s0,s1,s2,s3,s4⟩,?_,⟨e6.1,e6.2.1,e6.2.2.2.2.2.2.1,e6.2.2.2.2.2.2.2⟩⟩
 unfold pz2m
 rw[e1]
 simp only[Option.bind_some]
 have e2':toN 0 12 (fun i s=>pz2i fuel d i s) ([]:List Rg)=some (rgs d 12):=e2
 rw[e2']
 simp only[Option.bind_some]
 rw[e4]
 simp only[bindE,ha,Option.bind_some]
 rw[hn,e5]
 rfl
end Go.Proofs.YtjjdblcinoikeaaDoor.PL
set_option linter.unusedVariables false
set_option linter.unusedSectionVars false
set_option linter.unusedSimpArgs false
namespace Go.Proofs.YtjjdblcinoikeaaDoor.PL
open Go
theorem foldT_sub(f:Fnc)(ls:List ByteArray): ∀acc:List Int,∀r∈acc,r∈ls.foldl (fun a l=>addT a (fnd f l)) acc:=by
 induction ls with
 |nil=>intro acc r h;exact h
 |cons l ls ih=>
  intro acc r h
  refine ih _ r ?_
  show r∈addT acc (fnd f l)
  unfold addT
  split
  ·exact List.mem_append_left _ h
  ·exact h
theorem foldT_mem(f:Fnc)(ls:List ByteArray): ∀acc:List Int,∀l∈ls,0≤fnd f l→fnd f l∈ls.foldl (fun a l=>addT a (fnd f l)) acc:=by
 induction ls with
 |nil=>intro acc l h;cases h
 |cons x ls ih=>
  intro acc l h h0
  rcases List.mem_cons.1 h with rfl|h
  ·refine foldT_sub f ls _ _ ?_
   show fnd f l∈addT acc (fnd f l)
   unfold addT
   split
   ·simp
   ·rename_i c
    exact Classical.byContradiction fun h=>c ⟨h0,h⟩
  ·exact ih _ l h h0
theorem tgl_mem{f:Fnc}{ls:List ByteArray}{l:ByteArray}(h:l∈ls)(h0:0≤fnd f l):fnd f l∈tgl f ls:=foldT_mem f ls [] l h h0
section mok
variable {f:Fnc} {n:Nat} (hM:MOk n f) (hn9:n≤9)
include hM hn9
theorem mok_fOk:fOk f:=by
 refine⟨by rw[hM.len];omega,fun b hb=>?_⟩
 obtain⟨i,hi⟩:=List.getElem?_of_mem hb
 have:=hM.blk i b hi
 exact⟨by have:=this.len;omega,fun y hy=>by have:=this.labels y hy;omega⟩
theorem mok_fnd{j:Nat}(hj:j<n):fnd f (lab j)=(j:Int):=by
 refine yzW (fnd_is (mok_fOk hM hn9) _) (.inl ⟨j,rfl,?_,?_⟩)
 ·obtain⟨b,hb⟩:=getAt (xs:=f.blocks) (i:=j) (by rw[hM.len];exact hj)
  exact⟨b,hb,(hM.blk j b hb).label⟩
 ·intro k hk b hb e
  have h1:=(hM.blk k b hb).label
  rw[h1] at e
  have:=lab_inj k (by omega) j (by omega) e
  omega
end mok
theorem many_ok{d:Drf}(h:(d.blocks.map fun b=>1+b.code.length).sum≤1048576)(fuel:Nat): ∃r,pz1 fuel d=some r∧(r=false→d.blocks.length≤9∧ ∀b∈d.blocks,b.code.length≤60):=by
 have hlen: ∀l:List DBl,l.length≤(l.map fun b=>1+b.code.length).sum:=by
  intro l
  induction l with
  |nil=>simp
  |cons b l ih=>simp;omega
 have hmem: ∀(l:List DBl),∀b∈l,b.code.length≤(l.map fun b=>1+b.code.length).sum:=by
  intro l
  induction l with
  |nil=>intro b h;cases h
  |cons x l ih=>
   intro b hb
   rcases List.mem_cons.1 hb with rfl|hb
   ·simp;omega
   ·have:=ih b hb;simp;omega
 have hl:=hlen d.blocks
 have htake: ∀k,((d.blocks.take k).map fun b=>1+b.code.length).sum≤(d.blocks.map fun b=>1+b.code.length).sum:=by
  intro k
  have key: ∀(l:List Nat) (k:Nat),(l.take k).sum≤l.sum:=by
   intro l
   induction l with
   |nil=>simp
   |cons x l ih=>
    intro k
    cases k with
    |zero=>simp
    |succ k=>have:=ih k;simp;omega
  rw[List.map_take]
  exact key _ k
 obtain⟨s,e1,e2⟩:=yzC (fun i (s:Int)=>s=((((d.blocks.take i).map fun b=>1+b.code.length).sum:Nat):Int)) (fun i s=>pz0 fuel d i s) d.blocks.length (by omega) (s:=0) (by simp) (by
  rintro i s hi rfl
  obtain⟨b,hb⟩:=getAt hi
  have h1:=htake i
  have h2:=hmem _ b (List.mem_of_getElem? hb)
  unfold pz0
  simp only[zY hb,Option.bind_some]
  refine⟨_,rfl,?_⟩
  rw[List.take_add_one,hb]
  rw[zt (x:=((((d.blocks.take i).map fun b=>1+b.code.length).sum:Nat):Int)+1) (by omega) (by omega),zt (by omega) (by omega)]
  simp
  omega)
 rw[List.take_length] at e2
 unfold pz1
 rw[e1]
 refine⟨_,rfl,fun hr=>?_⟩
 subst e2
 simp at hr
 refine⟨by omega,fun b hb=>?_⟩
 have:=hmem _ b hb
 have h3:(d.blocks.map fun b=>1+b.code.length).sum≤60:=by
  have:=hr.2
  simp at this ⊢
  omega
 omega
end Go.Proofs.YtjjdblcinoikeaaDoor.PL
set_option linter.unusedVariables false
set_option linter.unusedSimpArgs false
namespace Go.Proofs.YtjjdblcinoikeaaDoor.PL
open Go
def mkM(n k:Nat):Nat:=if n<64*k+64 then 2^(n-64*k)-1 else 18446744073709551615
theorem mkM_lt(n k:Nat):mkM n k<18446744073709551616:=by
 unfold mkM
 split
 ·have h2:2^(n-64*k)<2^64:=Nat.pow_lt_pow_right (by decide) (by omega)
  have:(2:Nat)^64=18446744073709551616:=by decide
  omega
 ·omega
theorem mkM_bit(n k i:Nat)(hi:i<64):(mkM n k).testBit i=decide (64*k+i<n):=by
 unfold mkM
 split
 ·rw[Nat.testBit_two_pow_sub_one]
  simp only[decide_eq_decide];omega
 ·rw[show(18446744073709551615:Nat)=2^64-1 by decide,Nat.testBit_two_pow_sub_one]
  simp only[decide_eq_decide];omega
theorem mask_ok{s:zD}{n:Nat}(hs:s.n=(n:Int))(hn:n≤4294967296){k:Nat}(hk:k<(n+63)/64)(fuel:Nat):
  pz1d fuel s (k:Int)=some ((mkM n k:Nat):Int):=by
 unfold pz1d
 rw[hs,zt (x:=(k:Int)*64) (by omega) (by omega),zt (x:=(n:Int)-(k:Int)*64) (by omega) (by omega)]
 unfold mkM
 by_cases c:n<64*k+64
 ·have hl:(n:Int)-(k:Int)*64=((n-64*k:Nat):Int):=by omega
  have hlt:n-64*k<64:=by omega
  have h2:2^(n-64*k)<2^64:=Nat.pow_lt_pow_right (by decide) hlt
  have h1:0<2^(n-64*k):=Nat.pow_pos (by decide)
  have h64:(2:Nat)^64=18446744073709551616:=by decide
  rw[hl,if_pos (by simp;omega),shl_one hlt,if_pos c]
  simp only[Option.bind_some]
  congr 1
  generalize 2^(n-64*k)=p at h1 h2
  rw[show((p:Nat):Int)-1=((p-1:Nat):Int) by omega]
  exact wrapu (by omega)
 ·rw[if_neg (by simp;omega),if_neg c];rfl
def nw(s o:zD)(n i:Nat):Nat:=((s.words[i]?.getD 0).toNat&&&(o.words[i]?.getD 0).toNat)&&&mkM n i
theorem nw_lt(s o:zD)(n i:Nat):nw s o n i<18446744073709551616:=Nat.and_lt_two_pow (n:=64) _ (mkM_lt n i)
theorem and_ok{s o:zD}{n:Nat}(hV:bV s n)(hO:bV o n)(hn:n≤4294967296){fuel:Nat}(hf:n+1<fuel):
  ∃b s',pz1i fuel s o=some (b,s')∧bV s' n∧(∀j,bH s' j=(bH s j&&bH o j&&decide (j<n)))∧(b=true→ ∃j,j<64*((n+63)/64)∧bH s' j≠bH s j)∧(b=false→s'=s):=by
 unfold pz1i pz1h
 have hL:=hV.2.1
 have hM:=hO.2.1
 have key:=yD (ρ:=Bool×zD) (fun q:List Int×Int×Bool=> ∃k:Nat,q.2.1=k∧k≤(n+63)/64∧q.1.length=(n+63)/64∧(∀i,q.1[i]?=if i<k then some (nw s o n i:Int) else s.words[i]?)∧(q.2.2=true↔ ∃i,i<k∧some (nw s o n i:Int)≠s.words[i]?))
  (fun q=>q.1.length=(n+63)/64∧(∀i,i<(n+63)/64→q.1[i]?=some (nw s o n i:Int))∧(q.2.2=true↔ ∃i,i<(n+63)/64∧some (nw s o n i:Int)≠s.words[i]?)) (fun _=>False) (fun q=>(n+63)/64-q.2.1.toNat)
  (fun q=>pz1g fuel s o q.1 q.2.1 q.2.2) (by
   rintro⟨c,x,ch⟩ ⟨k,hx,hk,hlen,hc,hch⟩
   simp only at hx hlen hc hch
   subst hx
   show(∃s',pz1g fuel s o c (k:Int) ch=some (.n s')∧_)∨(∃s',pz1g fuel s o c (k:Int) ch=some (.b s')∧_)∨_
   unfold pz1g
   rw[hL,hM]
   by_cases h:k<(n+63)/64
   ·left
    have hlt:(k:Int)<(((n+63)/64:Nat):Int):=by omega
    obtain⟨w,hw⟩:=getAt (xs:=s.words) (i:=k) (by omega)
    obtain⟨w0,w1⟩:=hV.2.2 w (List.mem_of_getElem? hw)
    obtain⟨a,rfl⟩:=Int.eq_ofNat_of_zero_le w0
    obtain⟨v,hv⟩:=getAt (xs:=o.words) (i:=k) (by omega)
    obtain⟨v0,v1⟩:=hO.2.2 v (List.mem_of_getElem? hv)
    obtain⟨b,rfl⟩:=Int.eq_ofNat_of_zero_le v0
    have ha:a<18446744073709551616:=by omega
    have hb:b<18446744073709551616:=by omega
    have hck:c[k]?=some (a:Int):=by rw[hc k,if_neg (by omega),hw]
    have hab:a&&&b<18446744073709551616:=Nat.and_lt_two_pow (n:=64) a hb
    have hnw:nw s o n k=a&&&b&&&mkM n k:=by simp[nw,hw,hv]
    have e1:=band_nat ha hb
    have e2:=band_nat hab (mkM_lt n k)
    rw[←hnw] at e2
    have hset:setI c (k:Int) ((nw s o n k:Nat):Int)=some (c.set k ((nw s o n k:Nat):Int)):=kL (by omega)
    simp only[hlt,decide_true,if_true,zY hck,Option.bind_some,zY hv,pz1c,mask_ok (s:=⟨s.n,c⟩) hV.1 hn h fuel,e1,e2,hset]
    refine⟨_,rfl,⟨k+1,wrap1 (by omega),by omega,by simp;omega,?_,?_⟩,?_⟩
    ·intro i
     show(c.set k ((nw s o n k:Nat):Int))[i]?=_
     by_cases e:i=k
     ·subst e;rw[List.getElem?_set_self (by omega),if_pos (by omega)]
     ·rw[List.getElem?_set_ne (by omega),hc i]
      by_cases e2:i<k
      ·rw[if_pos e2,if_pos (by omega)]
      ·rw[if_neg e2,if_neg (by omega)]
    ·show(ch||decide (((nw s o n k:Nat):Int)≠(a:Int)))=true↔_
     rw[Bool.or_eq_true,hch,decide_eq_true_eq]
     constructor
     ·rintro(⟨i,h1,h2⟩|h1)
      ·exact⟨i,by omega,h2⟩
      ·exact⟨k,by omega,by rw[hw];simpa using h1⟩
     ·rintro⟨i,h1,h2⟩
      by_cases e:i=k
      ·subst e;rw[hw] at h2;exact .inr (by simpa using h2)
      ·exact .inl ⟨i,by omega,h2⟩
    ·show(n+63)/64-(IntKind.i64.wrap ((k:Int)+1)).toNat<(n+63)/64-((k:Int)).toNat
     rw[wrap1 (by omega)];omega
   ·right;left
    have hlt: ¬(k:Int)<(((n+63)/64:Nat):Int):=by omega
    simp only[hlt,decide_false,Bool.false_eq_true,if_false]
    have hkL:k=(n+63)/64:=by omega
    refine⟨_,rfl,hlen,fun i hi=>?_,?_⟩
    ·show c[i]?=_
     rw[hc i,if_pos (by omega)]
    ·show ch=true↔_
     rw[hch,hkL]) fuel (s.words,0,false) ⟨0,rfl,by omega,hL,fun i=>by simp,by simp⟩ (by simp;omega)
 rcases key with ⟨⟨c,x,ch⟩,k1,k2,k3,k4⟩|⟨v,_,h⟩
 ·simp only at k2 k3 k4
  refine⟨ch,⟨s.n,c⟩,by rw[k1];rfl,⟨hV.1,k2,?_⟩,?_,?_,?_⟩
  ·intro w hw
   obtain⟨i,hi⟩:=List.getElem?_of_mem hw
   have hi':=(List.getElem?_eq_some_iff.1 hi).1
   have hi2:i<c.length:=hi'
   have h2:c[i]?=some w:=hi
   rw[k3 i (by omega)] at h2
   have:=nw_lt s o n i
   cases h2
   omega
  ·intro j
   unfold bH
   show(match c[j/64]? with|some w=>w.toNat.testBit (j%64)|none=>false)=_
   by_cases hj:j/64<(n+63)/64
   ·obtain⟨w,hw⟩:=getAt (xs:=s.words) (i:=j/64) (by omega)
    obtain⟨v,hv⟩:=getAt (xs:=o.words) (i:=j/64) (by omega)
    rw[k3 _ hj]
    simp only[hw,hv,Int.toNat_natCast]
    unfold nw
    rw[hw,hv,Nat.testBit_and,Nat.testBit_and,mkM_bit _ _ _ (by omega),show 64*(j/64)+j%64=j by omega]
    rfl
   ·rw[List.getElem?_eq_none (by omega),List.getElem?_eq_none (by omega)]
    rfl
  ·intro h
   obtain⟨i,hi,h2⟩:=k4.1 h
   obtain⟨w,hw⟩:=getAt (xs:=s.words) (i:=i) (by omega)
   obtain⟨w0,w1⟩:=hV.2.2 w (List.mem_of_getElem? hw)
   obtain⟨a,rfl⟩:=Int.eq_ofNat_of_zero_le w0
   rw[hw] at h2
   have hne:nw s o n i≠a:=by
    intro e;rw[e] at h2;exact h2 rfl
   have: ∃b,(nw s o n i).testBit b≠a.testBit b:=by
    apply Classical.byContradiction
    intro hno
    exact hne (Nat.eq_of_testBit_eq fun b=>Classical.byContradiction fun hb=>hno ⟨b,hb⟩)
   obtain⟨b,hb⟩:=this
   have hb64:b<64:=by
    apply Classical.byContradiction
    intro hge
    have h64:(18446744073709551616:Nat)≤2^b:=by
     rw[show(18446744073709551616:Nat)=2^64 by decide]
     exact Nat.pow_le_pow_right (by decide) (by omega)
    have:=nw_lt s o n i
    rw[Nat.testBit_lt_two_pow (by omega),Nat.testBit_lt_two_pow (by omega)] at hb
    exact hb rfl
   refine⟨64*i+b,by omega,?_⟩
   unfold bH
   show(match c[(64*i+b)/64]? with|some w=>w.toNat.testBit ((64*i+b)%64)|none=>false)≠_
   rw[show(64*i+b)/64=i by omega,show(64*i+b)%64=b by omega,k3 i hi,hw]
   simpa using hb
  ·intro h
   have:c=s.words:=by
    apply List.ext_getElem?
    intro i
    by_cases hi:i<(n+63)/64
    ·rw[k3 i hi]
     apply Classical.byContradiction
     intro hne
     have:=k4.2 ⟨i,hi,hne⟩
     rw[h] at this;cases this
    ·rw[List.getElem?_eq_none (by omega),List.getElem?_eq_none (by omega)]
   rw[this]
 ·exact h.elim
theorem copy_ok{s:zD}{n:Nat}(hV:bV s n)(hn:n≤4294967296)(fuel:Nat):pz15 fuel s=some s:=by
 unfold pz15 pz12
 rw[yQ (by have:=hV.2.1;simp;omega)]
 rfl
theorem full_ok{n:Nat}(hn:n≤4294967){fuel:Nat}(hf:n+1<fuel): ∃s,pzj fuel (n:Int)=some s∧bV s n∧ ∀j,bH s j=decide (j<n):=by
 unfold pzj
 obtain⟨s0,h1,h2,h3⟩:=new_ok (n:=n) (by omega) fuel
 rw[h1]
 simp only[Option.bind_some]
 have key:=yD (ρ:=zD) (fun q:Int×zD=> ∃k:Nat,q.1=k∧k≤n∧bV q.2 n∧ ∀j,bH q.2 j=decide (j<k)) (fun q=>bV q.2 n∧ ∀j,bH q.2 j=decide (j<n)) (fun _=>False) (fun q=>n-q.1.toNat)
  (fun q=>pzi fuel s0 q.1 q.2) (by
   rintro⟨x,s⟩ ⟨k,hx,hk,hv,hb⟩
   simp only at hx hv hb
   subst hx
   show(∃s',pzi fuel s0 (k:Int) s=some (.n s')∧_)∨(∃s',pzi fuel s0 (k:Int) s=some (.b s')∧_)∨_
   unfold pzi
   rw[h2.1]
   by_cases h:k<n
   ·left
    have hlt:(k:Int)<(n:Int):=by omega
    rcases yzZ hv (by omega) fuel (k:Int) with ⟨e,hno⟩|⟨k',s',e0,hk',hf',e,hv',hb'⟩
    ·have:=hno k rfl h
     rw[hb k] at this
     simp at this
    ·have:k'=k:=by omega
     subst this
     simp only[hlt,decide_true,if_true,e,Option.bind_some]
     refine⟨_,rfl,⟨k'+1,wrap1 (by omega),by omega,hv',fun j=>?_⟩,?_⟩
     ·show bH s' j=_
      rw[hb' j,hb j]
      by_cases c1:j<k'<;>by_cases c2:j=k'<;>simp[c1,c2]<;>omega
     ·show n-(IntKind.i64.wrap ((k':Int)+1)).toNat<n-((k':Int)).toNat
      rw[wrap1 (by omega)];omega
   ·right;left
    have hlt: ¬(k:Int)<(n:Int):=by omega
    simp only[hlt,decide_false,Bool.false_eq_true,if_false]
    have:k=n:=by omega
    subst this
    exact⟨_,rfl,hv,hb⟩) fuel (0,s0) ⟨0,rfl,by omega,h2,fun j=>by rw[h3 j];simp⟩ (by simp;omega)
 rcases key with ⟨⟨x,s⟩,k1,k2,k3⟩|⟨v,_,h⟩
 ·exact⟨s,by rw[k1];rfl,k2,k3⟩
 ·exact h.elim
end Go.Proofs.YtjjdblcinoikeaaDoor.PL
set_option linter.unusedVariables false
set_option linter.unusedSimpArgs false
namespace Go.Proofs.YtjjdblcinoikeaaDoor.PL
open Go
theorem less_ok(fuel:Nat)(x y:Int):pzd fuel x y=some (decide (x<y)):=by
 simp[pzd,pzc]
abbrev Rise(l:List Int):Prop:=l.Pairwise (· < ·)
theorem Rise.lt{l:List Int}(h:Rise l){i j:Nat}{x y:Int}(hi:l[i]?=some x)(hj:l[j]?=some y)(hij:i<j):x<y:=by
 obtain⟨h1,e1⟩:=List.getElem?_eq_some_iff.1 hi
 obtain⟨h2,e2⟩:=List.getElem?_eq_some_iff.1 hj
 rw[←e1,←e2]
 exact List.pairwise_iff_getElem.1 h i j h1 h2 hij
theorem half_ok{i j:Nat}(hi:i≤4294967)(hj:j≤4294967):shr .u64 (IntKind.wrap .u64 (IntKind.wrap .i64 ((i:Int)+(j:Int)))) 1=some (((i+j)/2:Nat):Int):=by
 rw[zt (by omega) (by omega),show(i:Int)+(j:Int)=((i+j:Nat):Int) by omega,wrapu (by omega)]
 have:=shr_nat (a:=i+j) (k:=1) (by omega)
 simpa using this
theorem search_ok{l:List Int}(hl:l.length≤4294967)(hr:Rise l){fuel:Nat}(hf:2*l.length+1<fuel)(v:Int):
  ∃i:Nat,pzg fuel l v=some ((i:Int),decide (v∈l))∧i≤l.length∧(v∈l→l[i]?=some v):=by
 unfold pzg
 have key:=yD (ρ:=Int×Bool) (fun q:Int×Int=> ∃i j:Nat,q.1=i∧q.2=j∧i≤j∧j≤l.length∧(∀k x,k<i→l[k]?=some x→x<v)∧(∀k x,j≤k→l[k]?=some x→v≤x)) (fun q=> ∃i:Nat,q.1=i∧i≤l.length∧(∀k x,k<i→l[k]?=some x→x<v)∧(∀k x,i≤k→l[k]?=some x→v≤x)) (fun _=>False) (fun q=>q.2.toNat-q.1.toNat)
  (fun q=>pzf fuel l v q.1 q.2) (by
   rintro⟨a,b⟩ ⟨i,j,ha,hb,hij,hj,h1,h2⟩
   simp only at ha hb
   subst ha;subst hb
   show(∃s',pzf fuel l v (i:Int) (j:Int)=some (.n s')∧_)∨(∃s',pzf fuel l v (i:Int) (j:Int)=some (.b s')∧_)∨_
   unfold pzf
   by_cases h:i<j
   ·left
    have hlt:(i:Int)<(j:Int):=by omega
    obtain⟨x,hx⟩:=getAt (xs:=l) (i:=(i+j)/2) (by omega)
    simp only[hlt,decide_true,if_true,half_ok (i:=i) (j:=j) (by omega) (by omega),Option.bind_some,zt (x:=(((i+j)/2:Nat):Int)) (by omega) (by omega),zY hx,less_ok]
    by_cases c:x<v
    ·simp only[c,decide_true,if_true]
     refine⟨_,rfl,⟨(i+j)/2+1,j,wrap1 (by omega),rfl,by omega,hj,?_,h2⟩,?_⟩
     ·intro k y hk hy
      by_cases e:k=(i+j)/2
      ·subst e;rw[hx] at hy;cases hy;exact c
      ·have:=hr.lt hy hx (by omega);omega
     ·show((j:Int)).toNat-(IntKind.i64.wrap ((((i+j)/2:Nat):Int)+1)).toNat<((j:Int)).toNat-((i:Int)).toNat
      rw[wrap1 (by omega)];omega
    ·simp only[c,decide_false,Bool.false_eq_true,if_false]
     refine⟨_,rfl,⟨i,(i+j)/2,rfl,rfl,by omega,by omega,h1,?_⟩,?_⟩
     ·intro k y hk hy
      by_cases e:k=(i+j)/2
      ·subst e;rw[hx] at hy;cases hy;omega
      ·have:=hr.lt hx hy (by omega);omega
     ·show((((i+j)/2:Nat):Int)).toNat-((i:Int)).toNat<((j:Int)).toNat-((i:Int)).toNat
      omega
   ·right;left
    have hlt: ¬(i:Int)<(j:Int):=by omega
    simp only[hlt,decide_false,Bool.false_eq_true,if_false]
    have:i=j:=by omega
    subst this
    exact⟨_,rfl,i,rfl,hj,h1,h2⟩) fuel (0,(l.length:Int)) ⟨0,l.length,rfl,rfl,by omega,by omega,fun k x hk=>by omega,fun k x hk hx=>by have:=(List.getElem?_eq_some_iff.1 hx).1;omega⟩ (by simp;omega)
 rcases key with ⟨⟨a,b⟩,k1,i,ha,hi,h1,h2⟩|⟨_,_,h⟩
 ·simp only at ha
  subst ha
  rw[k1]
  have hmem:v∈l↔l[i]?=some v:=by
   constructor
   ·intro hv
    obtain⟨k,hk⟩:=List.getElem?_of_mem hv
    have hki: ¬k<i:=fun c=>by have:=h1 k v c hk;omega
    by_cases e:k=i
    ·subst e;exact hk
    ·obtain⟨y,hy⟩:=getAt (xs:=l) (i:=i) (by have:=(List.getElem?_eq_some_iff.1 hk).1;omega)
     have h3:=h2 i y (by omega) hy
     have h4:=hr.lt hy hk (by omega)
     omega
   ·exact fun h=>List.mem_of_getElem? h
  refine⟨i,?_,hi,fun hv=>hmem.1 hv⟩
  show(bindE (some (.n ((i:Int),b))) _ _)=_
  simp only[bindE]
  by_cases c:i<l.length
  ·obtain⟨y,hy⟩:=getAt (xs:=l) (i:=i) c
   have hlt:(i:Int)<(l.length:Int):=by omega
   by_cases e:y=v
   ·subst e
    have:y∈l:=hmem.2 hy
    simp[hlt,zY hy,this]
   ·have: ¬v∈l:=fun h=>e (by rw[hmem.1 h] at hy;cases hy;rfl)
    simp[hlt,zY hy,e,this,pze]
  ·have hlt: ¬(i:Int)<(l.length:Int):=by omega
   have: ¬v∈l:=fun h=>by have:=(List.getElem?_eq_some_iff.1 (hmem.1 h)).1;omega
   simp[hlt,this]
 ·exact h.elim
def plc(l:List Int)(v:Int):Int:=match l.findIdx? (fun x=>decide (x=v)) with|some i=>i|none=> -1
theorem plc_in{l:List Int}(hr:Rise l){v:Int}{i:Nat}(h:l[i]?=some v):plc l v=i:=by
 unfold plc
 have:l.findIdx? (fun x=>decide (x=v))=some i:=by
  rw[List.findIdx?_eq_some_iff_getElem]
  obtain⟨h1,e1⟩:=List.getElem?_eq_some_iff.1 h
  refine⟨h1,by simp[e1],fun j hj=>?_⟩
  have:l[j]?=some l[j]:=by simp
  have:=hr.lt this h hj
  simp;omega
 rw[this]
theorem plc_out{l:List Int}{v:Int}(h:v∉l):plc l v= -1:=by
 unfold plc
 have:l.findIdx? (fun x=>decide (x=v))=none:=by
  rw[List.findIdx?_eq_none_iff]
  intro x hx
  have:x≠v:=fun e=>h (e▸hx)
  simp[this]
 rw[this]
theorem place_ok{k:zG}(hl:k.ids.length≤4294967)(hr:Rise k.ids){fuel:Nat}(hf:2*k.ids.length+1<fuel)(v:Int):pzh fuel k v=some (plc k.ids v):=by
 unfold pzh
 obtain⟨i,h1,h2,h3⟩:=search_ok hl hr hf v
 rw[h1]
 by_cases c:v∈k.ids
 ·simp[c,plc_in hr (h3 c)]
 ·simp[c,plc_out c]
theorem plc_lt{l:List Int}(hr:Rise l)(v:Int):plc l v= -1∧v∉l∨ ∃i:Nat,plc l v=i∧i<l.length∧l[i]?=some v:=by
 by_cases c:v∈l
 ·obtain⟨i,hi⟩:=List.getElem?_of_mem c
  exact .inr ⟨i,plc_in hr hi,(List.getElem?_eq_some_iff.1 hi).1,hi⟩
 ·exact .inl ⟨plc_out c,c⟩
def gv(x:Ins):Option Int:=if x.dst.kind=1 then some x.dst.n else none
theorem give_ok{k:zG}(hl:k.ids.length≤4294967)(hr:Rise k.ids){s:zD}(hV:bV s k.ids.length){fuel:Nat}(hf:2*k.ids.length+1<fuel)(x:Ins):
  ∃s',pz16 fuel k s x=some s'∧bV s' k.ids.length∧ ∀j,bH s' j=(bH s j||decide (∃v,gv x=some v∧k.ids[j]?=some v)):=by
 unfold pz16 pz14 pz13
 by_cases c:x.dst.kind=1
 ·have hp:=place_ok hl hr hf x.dst.n
  simp only[c,decide_true,if_true,bindE,Option.bind_some,Bool.and_true,hp]
  have hg:gv x=some x.dst.n:=by simp[gv,c]
  rcases plc_lt hr x.dst.n with ⟨e,hno⟩|⟨i,e,hi,hx⟩
  ·rw[e]
   rcases yzZ hV (by omega) fuel (-1) with ⟨e2,_⟩|⟨i,_,hi,_⟩
   ·refine⟨s,by rw[e2];rfl,hV,fun j=>?_⟩
    have: ¬ ∃v,gv x=some v∧k.ids[j]?=some v:=by
     rintro⟨v,h1,h2⟩
     rw[hg] at h1;cases h1
     exact hno (List.mem_of_getElem? h2)
    simp[this]
   ·omega
  ·rw[e]
   rcases yzZ hV (by omega) fuel (i:Int) with ⟨e2,h2⟩|⟨i',s',hi',hlt,hb,e2,hV',hb'⟩
   ·refine⟨s,by rw[e2];rfl,hV,fun j=>?_⟩
    by_cases c2: ∃v,gv x=some v∧k.ids[j]?=some v
    ·obtain⟨v,h3,h4⟩:=c2
     rw[hg] at h3;cases h3
     have hji:j=i:=by
      rcases Nat.lt_trichotomy j i with h|h|h
      ·have:=hr.lt h4 hx h;omega
      ·exact h
      ·have:=hr.lt hx h4 h;omega
     subst hji
     rw[h2 j rfl hi];rfl
    ·simp[c2]
   ·have:i'=i:=by omega
    subst this
    refine⟨s',by rw[e2];rfl,hV',fun j=>?_⟩
    rw[hb' j]
    congr 1
    rw[decide_eq_decide]
    constructor
    ·rintro rfl;exact⟨_,hg,hx⟩
    ·rintro⟨v,h3,h4⟩
     rw[hg] at h3;cases h3
     rcases Nat.lt_trichotomy j i' with h|h|h
     ·have:=hr.lt h4 hx h;omega
     ·exact h
     ·have:=hr.lt hx h4 h;omega
 ·have hg: ∀v,¬gv x=some v:=by intro v;simp[gv,c]
  refine⟨s,?_,hV,fun j=>by simp[hg]⟩
  by_cases c2:x.dst.kind=2
  ·simp[c,c2,bindE]
  ·by_cases c3:x.dst.kind=3
   ·simp[c,c2,c3,bindE]
   ·simp[c,c2,c3,bindE]
end Go.Proofs.YtjjdblcinoikeaaDoor.PL
set_option linter.unusedVariables false
set_option linter.unusedSectionVars false
set_option linter.unusedSimpArgs false
namespace Go.Proofs.YtjjdblcinoikeaaDoor.PL
open Go
theorem compactI_rising{zs:List Int}(h:zs.Pairwise (fun x y=>x≤y)):Rise (Lib.compact zs):=by
 unfold Rise Lib.compact Lib.compactUpTo
 rw[List.pairwise_map,List.pairwise_filter]
 have hg: ∀i j:Nat,i≤j→j<zs.length→zs.toArray[i]! ≤zs.toArray[j]! :=by
  intro i j hij hj
  by_cases e:i=j
  ·subst e;exact Int.le_refl _
  ·have:=List.pairwise_iff_getElem.1 h i j (by omega) hj (by omega)
   have hi:i<zs.length:=by omega
   simpa [hi,hj] using this
 refine List.Pairwise.imp_of_mem ?_ List.pairwise_lt_range
 intro i j hi hj hij ki kj
 rw[List.mem_range] at hi hj
 have hk:j=0∨zs.toArray[j]! ≠zs.toArray[j-1]! :=of_decide_eq_true kj
 have h1:zs.toArray[i]! ≤zs.toArray[j-1]! :=hg i (j-1) (by omega) (by omega)
 have h2:zs.toArray[j-1]! ≤zs.toArray[j]! :=hg (j-1) j (by omega) hj
 rcases hk with hk|hk
 ·omega
 ·show zs.toArray[i]! <zs.toArray[j]!
  omega
def idl(f:Fnc):List Int:=Lib.compact (isort (f.regs.map fun r=>r.id))
theorem zzN(f:Fnc):Rise (idl f):=compactI_rising (isort_sorted _)
theorem yzF(f:Fnc):(idl f).length≤f.regs.length:=by
 unfold idl
 have h1:=Lib.compact_length_le (isort (f.regs.map fun r=>r.id))
 have h2:=(yzV (f.regs.map fun r=>r.id)).length_eq
 rw[List.length_map] at h2
 omega
def cnt(s:zD):Nat→Nat
 |0=>0
 |m+1=>cnt s m+if bH s m=true then 1 else 0
theorem cnt_bd(s:zD): ∀m,cnt s m≤m
 |0=>Nat.le_refl _
 |m+1=>by have:=cnt_bd s m;unfold cnt;split<;>omega
theorem cnt_le{s t:zD}(h: ∀j,bH s j=true→bH t j=true): ∀m,cnt s m≤cnt t m
 |0=>Nat.le_refl _
 |m+1=>by
  have:=cnt_le h m
  unfold cnt
  by_cases c:bH s m=true
  ·rw[if_pos c,if_pos (h m c)];omega
  ·rw[if_neg c];split<;>omega
theorem cnt_lt{s t:zD}(h: ∀j,bH s j=true→bH t j=true){j:Nat}(hj:bH s j≠bH t j): ∀m,j<m→cnt s m<cnt t m
 |0,hm=>by omega
 |m+1,hm=>by
  unfold cnt
  by_cases e:j=m
  ·subst e
   have:=cnt_le h j
   have h2:bH s j=false:=by
    cases c:bH s j
    ·rfl
    ·rw[c,h j c] at hj;exact absurd rfl hj
   have h3:bH t j=true:=by
    cases c:bH t j
    ·rw[c,h2] at hj;exact absurd rfl hj
    ·rfl
   rw[h2,h3]
   simp;omega
  ·have:=cnt_lt h hj m (by omega)
   by_cases c:bH s m=true
   ·rw[if_pos c,if_pos (h m c)];omega
   ·rw[if_neg c];split<;>omega
def tot(n:Nat)(l:List zD):Nat:=(l.map fun s=>cnt s (64*((n+63)/64))).sum
theorem tot_set(n:Nat)(x:zD): ∀(l:List zD) (i:Nat) (y:zD),l[i]?=some y→tot n (l.set i x)+cnt y (64*((n+63)/64))=tot n l+cnt x (64*((n+63)/64))
 |[],i,y,h=>by simp at h
 |z::l,0,y,h=>by simp at h;subst h;simp[tot];omega
 |z::l,i+1,y,h=>by
  have:=tot_set n x l i y (by simpa using h)
  simp only[tot,List.set_cons_succ,List.map_cons,List.sum_cons] at this ⊢
  omega
theorem tot_bd(n:Nat): ∀l:List zD,tot n l≤l.length*(64*((n+63)/64))
 |[]=>by simp[tot]
 |z::l=>by
  have:=tot_bd n l
  have h2:=cnt_bd z (64*((n+63)/64))
  show(cnt z (64*((n+63)/64))+tot n l)≤(l.length+1)*(64*((n+63)/64))
  rw[Nat.add_mul,Nat.one_mul]
  generalize l.length*(64*((n+63)/64))=A at*
  omega
def fBa(f:Fnc):Prop:=fOk f∧f.regs.length≤1048576∧f.params.length≤1048576
def fBk(f:Fnc):Prop:=fOk f∧f.regs.length≤1048576∧f.params.length≤1048576∧ ∀b∈f.blocks,∀i∈b.code,i.args.length≤1048576∧i.cases.length≤1048576
theorem fBk.a{f:Fnc}(h:fBk f):fBa f:=⟨h.1,h.2.1,h.2.2.1⟩
def gbN(f:Fnc)(b n:Nat)(v:Int):Prop:= ∃bl,f.blocks[b]?=some bl∧ ∃x∈bl.code.take n,gv x=some v
def gb(f:Fnc)(b:Nat)(v:Int):Prop:= ∃bl,f.blocks[b]?=some bl∧ ∃x∈bl.code,gv x=some v
def EG(f:Fnc)(v:Int)(a b:Nat):Prop:=EE f a b∧ ¬gb f a v
def isP(f:Fnc)(v:Int):Prop:= ∃p∈f.params,p.kind=1∧p.n=v
def Wo(f:Fnc)(v:Int)(b:Nat):Prop:= ¬isP f v∧Path (EG f v) (fun _=>True) 0 b
theorem zzt{α β:Type}(h:α→β): ∀(l:List α) (a:List β),l.foldl (fun a r=>a++[h r]) a=a++l.map h
 |[],a=>by simp
 |x::l,a=>by rw[List.foldl_cons,zzt h l];simp
section
variable {f:Fnc} (hn:fBa f) {fuel:Nat} (hf:17592186044416<fuel)
include hn hf
theorem asg_b1:loopE fuel (fun s=>pz1k fuel f s.1 s.2) (0,([]:List Int))=some (.n ((f.regs.length:Int),f.regs.map fun r=>r.id)):=by
 have hr:=hn.2.1
 have:=loop_fold (xs:=f.regs) (f:=fun s:Int×List Int=>pz1k fuel f s.1 s.2) (fun a r=>a++[r.id]) (fun _=>True) (by omega) (s0:=[]) trivial (by
  intro i x s hx hs _
  have hl:i<f.regs.length:=(List.getElem?_eq_some_iff.1 hx).1
  have hlt:(i:Int)<(f.regs.length:Int):=by omega
  have hsl:s.length≤1048576:=by
   rw[hs,zzt]
   simp;omega
  have ha:app s [x.id]=some (s++[x.id]):=yQ (by simp;omega)
  show pz1k fuel f (i:Int) s=_∧True
  unfold pz1k
  simp only[hlt,decide_true,if_true,zY hx,Option.bind_some,ha,wrap1 (show i≤4294967296 by omega)]
  exact⟨trivial,trivial⟩) (by
  intro s
  show pz1k fuel f (f.regs.length:Int) s=_
  unfold pz1k
  simp) (fuel:=fuel) (by omega)
 rw[this,zzt]
 rfl
theorem asg_b2{S:zD}{r1:List Int}(hS:pzj fuel (r1.length:Int)=some S):
  ∃x,loopE fuel (fun s=>pz1l fuel f r1 s.1 s.2) (([]:List zD),0)=some (.n (List.replicate f.blocks.length S,x)):=by
 have hb:=hn.1.1
 have key:=yD (ρ:=zG) (fun q:List zD×Int=> ∃k:Nat,q.2=k∧k≤f.blocks.length∧q.1=List.replicate k S) (fun q=>q.1=List.replicate f.blocks.length S) (fun _=>False) (fun q=>f.blocks.length-q.2.toNat)
  (fun s=>pz1l fuel f r1 s.1 s.2) (by
   rintro⟨c,x⟩ ⟨k,hx,hk,hc⟩
   simp only at hx hc
   subst hx;subst hc
   show(∃s',pz1l fuel f r1 _ (k:Int)=some (.n s')∧_)∨(∃s',pz1l fuel f r1 _ (k:Int)=some (.b s')∧_)∨_
   unfold pz1l
   by_cases h:k<f.blocks.length
   ·left
    have hlt:(k:Int)<(f.blocks.length:Int):=by omega
    have ha:app (List.replicate k S) [S]=some (List.replicate k S++[S]):=yQ (by simp;omega)
    simp only[hlt,decide_true,if_true,hS,Option.bind_some,ha]
    refine⟨_,rfl,⟨k+1,wrap1 (by omega),by omega,?_⟩,?_⟩
    ·show List.replicate k S++[S]=_
     rw[List.replicate_succ']
    ·show f.blocks.length-(IntKind.i64.wrap ((k:Int)+1)).toNat<f.blocks.length-((k:Int)).toNat
     rw[wrap1 (by omega)];omega
   ·right;left
    have hlt: ¬(k:Int)<(f.blocks.length:Int):=by omega
    simp only[hlt,decide_false,Bool.false_eq_true,if_false]
    have:k=f.blocks.length:=by omega
    subst this
    exact⟨_,rfl,rfl⟩) fuel ([],0) ⟨0,rfl,by omega,by simp⟩ (by simp;omega)
 rcases key with ⟨⟨c,x⟩,k1,k2⟩|⟨v,_,h⟩
 ·simp only at k2
  subst k2
  exact⟨x,k1⟩
 ·exact h.elim
theorem asg_b3(c4:List zD){s0:zD}(hV:bV s0 (idl f).length)(h0: ∀j,bH s0 j=false):
  ∃s x,loopE fuel (fun s=>pz1m fuel f (idl f) c4 s.1 s.2) (s0,0)=some (.n (s,x))∧bV s (idl f).length∧ ∀j,bH s j=true↔ ∃v,(idl f)[j]?=some v∧isP f v:=by
 have hp:=hn.2.2
 have hil:=yzF f
 have hr:=hn.2.1
 have key:=yD (ρ:=zG) (fun q:zD×Int=> ∃k:Nat,q.2=k∧k≤f.params.length∧bV q.1 (idl f).length∧ ∀j,bH q.1 j=true↔ ∃v,(idl f)[j]?=some v∧ ∃p∈f.params.take k,p.kind=1∧p.n=v)
  (fun q=>bV q.1 (idl f).length∧ ∀j,bH q.1 j=true↔ ∃v,(idl f)[j]?=some v∧isP f v) (fun _=>False) (fun q=>f.params.length-q.2.toNat)
  (fun s=>pz1m fuel f (idl f) c4 s.1 s.2) (by
   rintro⟨s,x⟩ ⟨k,hx,hk,hv,hb⟩
   simp only at hx hv hb
   subst hx
   show(∃s',pz1m fuel f (idl f) c4 s (k:Int)=some (.n s')∧_)∨(∃s',pz1m fuel f (idl f) c4 s (k:Int)=some (.b s')∧_)∨_
   unfold pz1m
   by_cases h:k<f.params.length
   ·left
    have hlt:(k:Int)<(f.params.length:Int):=by omega
    obtain⟨p,hpk⟩:=getAt (xs:=f.params) (i:=k) h
    have htk: ∀q,q∈f.params.take (k+1)↔q∈f.params.take k∨q=p:=by
     intro q;rw[List.take_add_one,hpk];simp
    have hm:f.params.length-(IntKind.i64.wrap ((k:Int)+1)).toNat<f.params.length-((k:Int)).toNat:=by rw[wrap1 (by omega)];omega
    by_cases c:p.kind=1
    ·have hpl:=place_ok (k:=⟨f,idl f,c4⟩) (show(idl f).length≤4294967 by omega) (zzN f) (fuel:=fuel) (by show 2*(idl f).length+1<fuel;omega) p.n
     simp only[hlt,decide_true,if_true,zY hpk,Option.bind_some,c,hpl]
     rcases plc_lt (zzN f) p.n with ⟨e,hno⟩|⟨i,e,hi,hx⟩
     ·rcases yzZ hv (by omega) fuel (plc (idl f) p.n) with ⟨e2,_⟩|⟨i,_,hi,_⟩
      ·rw[e2]
       refine⟨_,rfl,⟨k+1,wrap1 (by omega),by omega,hv,fun j=>?_⟩,hm⟩
       show bH s j=true↔_
       rw[hb j]
       constructor
       ·rintro⟨v,h1,q,h2,h3⟩;exact⟨v,h1,q,(htk q).2 (.inl h2),h3⟩
       ·rintro⟨v,h1,q,h2,h3,h4⟩
        rcases (htk q).1 h2 with h2|rfl
        ·exact⟨v,h1,q,h2,h3,h4⟩
        ·subst h4;exact absurd (List.mem_of_getElem? h1) hno
      ·omega
     ·rcases yzZ hv (by omega) fuel (plc (idl f) p.n) with ⟨e2,h2⟩|⟨i',s',hi',hlt',hb0,e2,hV',hb'⟩
      ·rw[e2]
       refine⟨_,rfl,⟨k+1,wrap1 (by omega),by omega,hv,fun j=>?_⟩,hm⟩
       show bH s j=true↔_
       constructor
       ·intro hj
        obtain⟨v,h1,q,h3,h4⟩:=(hb j).1 hj
        exact⟨v,h1,q,(htk q).2 (.inl h3),h4⟩
       ·rintro⟨v,h1,q,h3,h4,h5⟩
        rcases (htk q).1 h3 with h3|rfl
        ·exact(hb j).2 ⟨v,h1,q,h3,h4,h5⟩
        ·subst h5
         have:=plc_in (zzN f) h1
         exact h2 j this (List.getElem?_eq_some_iff.1 h1).1
      ·rw[e2]
       refine⟨_,rfl,⟨k+1,wrap1 (by omega),by omega,hV',fun j=>?_⟩,hm⟩
       show bH s' j=true↔_
       rw[hb' j,Bool.or_eq_true,hb j,decide_eq_true_eq]
       have:i'=i:=by omega
       subst this
       constructor
       ·rintro(⟨v,h1,q,h2,h3⟩|rfl)
        ·exact⟨v,h1,q,(htk q).2 (.inl h2),h3⟩
        ·exact⟨p.n,hx,p,(htk p).2 (.inr rfl),c,rfl⟩
       ·rintro⟨v,h1,q,h2,h3,h4⟩
        rcases (htk q).1 h2 with h2|rfl
        ·exact .inl ⟨v,h1,q,h2,h3,h4⟩
        ·subst h4
         have:=plc_in (zzN f) h1
         right;omega
    ·simp only[hlt,decide_true,if_true,zY hpk,Option.bind_some,c,decide_false,Bool.false_eq_true,if_false]
     refine⟨_,rfl,⟨k+1,wrap1 (by omega),by omega,hv,fun j=>?_⟩,hm⟩
     show bH s j=true↔_
     rw[hb j]
     constructor
     ·rintro⟨v,h1,q,h2,h3⟩;exact⟨v,h1,q,(htk q).2 (.inl h2),h3⟩
     ·rintro⟨v,h1,q,h2,h3,h4⟩
      rcases (htk q).1 h2 with h2|rfl
      ·exact⟨v,h1,q,h2,h3,h4⟩
      ·exact absurd h3 c
   ·right;left
    have hlt: ¬(k:Int)<(f.params.length:Int):=by omega
    simp only[hlt,decide_false,Bool.false_eq_true,if_false]
    refine⟨_,rfl,hv,fun j=>?_⟩
    show bH s j=true↔_
    rw[hb j,List.take_of_length_le (by omega)]
    rfl) fuel (s0,0) ⟨0,rfl,by omega,hV,fun j=>by rw[h0 j];simp⟩ (by simp;omega)
 rcases key with ⟨⟨s,x⟩,k1,k2,k3⟩|⟨v,_,h⟩
 ·exact⟨s,x,k1,k2,k3⟩
 ·exact h.elim
end
end Go.Proofs.YtjjdblcinoikeaaDoor.PL
set_option linter.unusedVariables false
set_option linter.unusedSectionVars false
set_option linter.unusedSimpArgs false
namespace Go.Proofs.YtjjdblcinoikeaaDoor.PL
open Go
structure KInv (f:Fnc) (k:zG):Prop where
 hf:k.f=f
 hi:k.ids=idl f
 hl:k.in_.length=f.blocks.length
 hv: ∀s∈k.in_,bV s (idl f).length
 d1: ∀(b j:Nat) (s:zD) (v:Int),k.in_[b]?=some s→(idl f)[j]?=some v→bH s j=false→Wo f v b
 d0: ∀(j:Nat) (s:zD) (v:Int),k.in_[0]?=some s→(idl f)[j]?=some v→ ¬isP f v→bH s j=false
 ht: ∀s∈k.in_,∀j,bH s j=true→j<(idl f).length
def clo(f:Fnc)(k:zG)(b:Nat):Prop:= ∀(s t:zD) (to j:Nat) (v:Int),k.in_[b]?=some s→(to:Int)∈TT f b→k.in_[to]?=some t→(idl f)[j]?=some v→bH t j=true→bH s j=true∨gb f b v
section
variable {f:Fnc} (hn:fBa f) {fuel:Nat} (hf:17592186044416<fuel)
include hn hf
theorem through_ok{k:zG}(hk:KInv f k){b:Nat}{bl:Bl}{s:zD}(hb:f.blocks[b]?=some bl)(hs:k.in_[b]?=some s){m:Nat}(hm:m≤bl.code.length):
  ∃o,pz1f fuel k (b:Int) (m:Int)=some o∧bV o (idl f).length∧ ∀j,bH o j=true↔(bH s j=true∨ ∃v,(idl f)[j]?=some v∧gbN f b m v):=by
 have hil:=yzF f
 have hr:=hn.2.1
 have hmem:bl∈f.blocks:=List.mem_of_getElem? hb
 have hc:=(hn.1.2 bl hmem).1
 have hV:=hk.hv s (List.mem_of_getElem? hs)
 unfold pz1f
 have hsl:sli bl.code 0 (m:Int)=some (bl.code.take m):=by
  unfold sli
  rw[if_pos (by omega)]
  simp
 have hkf:idx k.f.blocks (b:Int)=some bl:=by rw[hk.hf];exact zY hb
 simp only[zY hs,Option.bind_some,copy_ok hV (by omega) fuel,hkf,hsl]
 have hlen:(bl.code.take m).length=m:=by simp;omega
 have key:=yD (ρ:=zD) (fun q:Int×zD=> ∃i:Nat,q.1=i∧i≤m∧bV q.2 (idl f).length∧ ∀j,bH q.2 j=true↔(bH s j=true∨ ∃v,(idl f)[j]?=some v∧gbN f b i v))
  (fun q=>bV q.2 (idl f).length∧ ∀j,bH q.2 j=true↔(bH s j=true∨ ∃v,(idl f)[j]?=some v∧gbN f b m v)) (fun _=>False) (fun q=>m-q.1.toNat)
  (fun s=>pz1e fuel k (bl.code.take m) s.1 s.2) (by
   rintro⟨x,q⟩ ⟨i,hx,hi,hv,hB⟩
   simp only at hx hv hB
   subst hx
   show(∃s',pz1e fuel k (bl.code.take m) (i:Int) q=some (.n s')∧_)∨(∃s',pz1e fuel k (bl.code.take m) (i:Int) q=some (.b s')∧_)∨_
   unfold pz1e
   rw[hlen]
   by_cases h:i<m
   ·left
    have hlt:(i:Int)<(m:Int):=by omega
    obtain⟨z,hz⟩:=getAt (xs:=bl.code) (i:=i) (by omega)
    have hz2:(bl.code.take m)[i]?=some z:=by rw[List.getElem?_take,if_pos h,hz]
    obtain⟨q',e,hv',hB'⟩:=give_ok (k:=k) (by rw[hk.hi];omega) (by rw[hk.hi];exact zzN f) (by rw[hk.hi];exact hv) (fuel:=fuel) (by rw[hk.hi];omega) z
    rw[hk.hi] at hv' hB'
    simp only[hlt,decide_true,if_true,zY hz2,Option.bind_some,e]
    refine⟨_,rfl,⟨i+1,wrap1 (by omega),by omega,hv',fun j=>?_⟩,?_⟩
    ·show bH q' j=true↔_
     rw[hB' j,Bool.or_eq_true,hB j,decide_eq_true_eq]
     have htk: ∀y,y∈bl.code.take (i+1)↔y∈bl.code.take i∨y=z:=by
      intro y;rw[List.take_add_one,hz];simp
     constructor
     ·rintro((h1|⟨v,h1,bl',h2,y,h3,h4⟩)|⟨v,h1,h2⟩)
      ·exact .inl h1
      ·rw[hb] at h2;cases h2
       exact .inr ⟨v,h1,bl,hb,y,(htk y).2 (.inl h3),h4⟩
      ·exact .inr ⟨v,h2,bl,hb,z,(htk z).2 (.inr rfl),h1⟩
     ·rintro(h1|⟨v,h1,bl',h2,y,h3,h4⟩)
      ·exact .inl (.inl h1)
      ·rw[hb] at h2;cases h2
       rcases (htk y).1 h3 with h3|rfl
       ·exact .inl (.inr ⟨v,h1,bl,hb,y,h3,h4⟩)
       ·exact .inr ⟨v,h4,h1⟩
    ·show m-(IntKind.i64.wrap ((i:Int)+1)).toNat<m-((i:Int)).toNat
     rw[wrap1 (by omega)];omega
   ·right;left
    have hlt: ¬(i:Int)<(m:Int):=by omega
    simp only[hlt,decide_false,Bool.false_eq_true,if_false]
    have:i=m:=by omega
    subst this
    exact⟨_,rfl,hv,hB⟩) fuel (0,s) ⟨0,rfl,by omega,hV,fun j=>by
     constructor
     ·exact .inl
     ·rintro(h|⟨v,_,bl',_,y,h,_⟩)
      ·exact h
      ·simp at h⟩ (by simp;omega)
 rcases key with ⟨⟨x,q⟩,k1,k2,k3⟩|⟨v,_,h⟩
 ·exact⟨q,by rw[k1];rfl,k2,k3⟩
 ·exact h.elim
theorem Wo_step{v:Int}{b to:Nat}(h:Wo f v b)(he:(to:Int)∈TT f b)(hg: ¬gb f b v):Wo f v to:=
 ⟨h.1,Path.snoc h.2 (⟨he,hg⟩:EG f v b to) trivial⟩
theorem gbN_all{b:Nat}{bl:Bl}(hb:f.blocks[b]?=some bl){v:Int}:gbN f b bl.code.length v↔gb f b v:=by
 constructor
 ·rintro⟨bl',h1,y,h2,h3⟩
  rw[hb] at h1;cases h1
  rw[List.take_length] at h2
  exact⟨bl,hb,y,h2,h3⟩
 ·rintro⟨bl',h1,y,h2,h3⟩
  rw[hb] at h1;cases h1
  exact⟨bl,hb,y,by rw[List.take_length];exact h2,h3⟩
theorem asg_b5{k:zG}(hk:KInv f k){b:Nat}(hbn:b<f.blocks.length){s0 o:zD}(hs0:k.in_[b]?=some s0)(hO:bV o (idl f).length)
  (ho: ∀j,bH o j=true↔(bH s0 j=true∨ ∃v,(idl f)[j]?=some v∧gb f b v)) {w:List Nat} (hw:w.Nodup) (hwl: ∀x∈w,x<f.blocks.length) (hbw:b∉w)
  (hc: ∀b'<f.blocks.length,b'≠b→b'∉w→clo f k b'):
  ∃w' x k',loopE fuel (fun s=>pz1n fuel o (TT f b) s.1 s.2.1 s.2.2) (embN w,0,k)=some (.n (embN w',x,k'))∧KInv f k'∧w'.Nodup∧(∀x∈w',x<f.blocks.length)∧(∀b'<f.blocks.length,b'∉w'→clo f k' b')∧tot (idl f).length k'.in_+w'.length≤tot (idl f).length k.in_+w.length:=by
 have hil:=yzF f
 have hr:=hn.2.1
 have hnb:=hn.1.1
 have hTl:=TT_len hn.1 b
 have hout: ∀(j:Nat) (v:Int),(idl f)[j]?=some v→bH o j=false→Wo f v b∧ ¬gb f b v:=by
  intro j v hj h
  have h1: ¬(bH s0 j=true∨ ∃v,(idl f)[j]?=some v∧gb f b v):=by rw[←ho j,h];simp
  refine⟨hk.d1 b j s0 v hs0 hj ?_,fun hg=>h1 (.inr ⟨v,hj,hg⟩)⟩
  cases c:bH s0 j
  ·rfl
  ·exact absurd (.inl c) h1
 have key:=yD (ρ:=Ex (List Int×zG) zG) (fun q:List Int×Int×zG=> ∃(i:Nat) (w1:List Nat),q.1=embN w1∧q.2.1=i∧i≤(TT f b).length∧KInv f q.2.2∧w1.Nodup∧(∀x∈w1,x<f.blocks.length)∧
   (∀b'<f.blocks.length,b'≠b→b'∉w1→clo f q.2.2 b')∧(b∉w1→q.2.2.in_[b]?=some s0)∧(∀t:Nat,(t:Int)∈(TT f b).take i→ ∀y,q.2.2.in_[t]?=some y→ ∀j,bH y j=true→bH o j=true)∧tot (idl f).length q.2.2.in_+w1.length≤tot (idl f).length k.in_+w.length)
  (fun q=> ∃w1:List Nat,q.1=embN w1∧KInv f q.2.2∧w1.Nodup∧(∀x∈w1,x<f.blocks.length)∧(∀b'<f.blocks.length,b'∉w1→clo f q.2.2 b')∧tot (idl f).length q.2.2.in_+w1.length≤tot (idl f).length k.in_+w.length) (fun _=>False) (fun q=>(TT f b).length-q.2.1.toNat)
  (fun s=>pz1n fuel o (TT f b) s.1 s.2.1 s.2.2) (by
   rintro⟨wt,x,k1⟩ ⟨i,w1,hwt,hx,hi,hK,hnd,hlt1,hcl,hbb,hE,hM⟩
   simp only at hwt hx hK hcl hbb hE hM
   subst hwt;subst hx
   show(∃s',pz1n fuel o (TT f b) (embN w1) (i:Int) k1=some (.n s')∧_)∨(∃s',pz1n fuel o (TT f b) (embN w1) (i:Int) k1=some (.b s')∧_)∨_
   unfold pz1n
   by_cases h:i<(TT f b).length
   ·left
    have hlt:(i:Int)<((TT f b).length:Int):=by omega
    obtain⟨z,hz⟩:=getAt (xs:=TT f b) (i:=i) h
    have hzm:z∈TT f b:=List.mem_of_getElem? hz
    obtain⟨hz0,hz1⟩:=TT_in hn.1 hzm
    obtain⟨to,rfl⟩:=Int.eq_ofNat_of_zero_le hz0
    have hto:to<f.blocks.length:=by omega
    obtain⟨y,hy⟩:=getAt (xs:=k1.in_) (i:=to) (by rw[hK.hl];exact hto)
    have hyV:=hK.hv y (List.mem_of_getElem? hy)
    obtain⟨ch,y',eA,hy'V,hy'b,hch,hsame⟩:=and_ok hyV hO (by omega) (fuel:=fuel) (by omega)
    have hwl1:w1.length≤f.blocks.length:=kV _ w1 hnd hlt1
    have hlen1:(embN w1).length=w1.length:=by simp[embN]
    have hin:=in_sl (l:=embN w1) (by omega) (fuel:=fuel) (by omega) (to:Int)
    have hmem:((to:Int)∈embN w1)↔to∈w1:=by
     unfold embN
     rw[List.mem_map]
     constructor
     ·rintro⟨a,h1,h2⟩
      have:a=to:=by omega
      subst this;exact h1
     ·exact fun h=>⟨to,h,rfl⟩
    have hset:setI k1.in_ (to:Int) y'=some (k1.in_.set to y'):=kL (by rw[hK.hl];exact hto)
    have happ:app (embN w1) ([(to:Int)]:List Int)=some (embN (w1++[to])):=by
     rw[yQ (by simp;omega)];simp[embN]
    have htk: ∀t:Nat,(t:Int)∈(TT f b).take (i+1)↔(t:Int)∈(TT f b).take i∨t=to:=by
     intro t
     rw[List.take_add_one,hz,List.mem_append,Option.toList_some,List.mem_singleton]
     constructor
     ·rintro(h|h)
      ·exact .inl h
      ·exact .inr (by omega)
     ·rintro(h|rfl)
      ·exact .inl h
      ·exact .inr rfl
    have hm:(TT f b).length-(IntKind.i64.wrap ((i:Int)+1)).toNat<(TT f b).length-((i:Int)).toNat:=by rw[wrap1 (by omega)];omega
    have hkeq:(⟨(⟨k1.f.machine,k1.f.name,k1.f.regs,k1.f.params,k1.f.blocks⟩:Fnc),k1.ids,k1.in_.set to y'⟩:zG)=⟨k1.f,k1.ids,k1.in_.set to y'⟩:=rfl
    have hget: ∀t:Nat,(k1.in_.set to y')[t]?=if t=to then some y' else k1.in_[t]?:=by
     intro t
     by_cases e:t=to
     ·subst e;rw[List.getElem?_set_self (by rw[hK.hl];exact hto),if_pos rfl]
     ·rw[List.getElem?_set_ne (by omega),if_neg e]
    have hsub: ∀j,bH y' j=true→bH y j=true∧bH o j=true:=by
     intro j h
     rw[hy'b j,Bool.and_eq_true,Bool.and_eq_true] at h
     exact h.1
    have hK2:KInv f ⟨k1.f,k1.ids,k1.in_.set to y'⟩:=by
     refine⟨hK.hf,hK.hi,by simp[hK.hl],?_,?_,?_,?_⟩
     ·intro s hs
      rcases List.mem_or_eq_of_mem_set hs with hs|rfl
      ·exact hK.hv s hs
      ·exact hy'V
     ·intro b1 j s v hs hj hb0
      have hs2:(k1.in_.set to y')[b1]?=some s:=hs
      rw[hget b1] at hs2
      by_cases e:b1=to
      ·subst e
       rw[if_pos rfl] at hs2;cases hs2
       have hjn:j<(idl f).length:=(List.getElem?_eq_some_iff.1 hj).1
       rw[hy'b j,decide_eq_true hjn,Bool.and_true,Bool.and_eq_false_iff] at hb0
       rcases hb0 with hb0|hb0
       ·exact hK.d1 b1 j y v hy hj hb0
       ·obtain⟨h1,h2⟩:=hout j v hj hb0
        exact Wo_step hn hf h1 hzm h2
      ·rw[if_neg e] at hs2
       exact hK.d1 b1 j s v hs2 hj hb0
     ·intro j s v hs hj hp
      have hs2:(k1.in_.set to y')[0]?=some s:=hs
      rw[hget 0] at hs2
      by_cases e:0=to
      ·subst e
       rw[if_pos rfl] at hs2;cases hs2
       rw[hy'b j,hK.d0 j y v hy hj hp];rfl
      ·rw[if_neg e] at hs2
       exact hK.d0 j s v hs2 hj hp
     ·intro s hs j hj
      rcases List.mem_or_eq_of_mem_set hs with hs|rfl
      ·exact hK.ht s hs j hj
      ·rw[hy'b j,Bool.and_eq_true] at hj
       exact of_decide_eq_true hj.2
    have hE2: ∀t:Nat,(t:Int)∈(TT f b).take (i+1)→ ∀q,(k1.in_.set to y')[t]?=some q→ ∀j,bH q j=true→bH o j=true:=by
     intro t ht q hq j hj
     rw[hget t] at hq
     by_cases e:t=to
     ·rw[if_pos e] at hq;cases hq
      exact(hsub j hj).2
     ·rw[if_neg e] at hq
      rcases (htk t).1 ht with ht|ht
      ·exact hE t ht q hq j hj
      ·exact absurd ht e
    have hcl2: ∀b'<f.blocks.length,b'≠to→clo f k1 b'→clo f ⟨k1.f,k1.ids,k1.in_.set to y'⟩ b':=by
     intro b' _ hne hc s t to' j v hs hto' ht hj hb1
     have hs2:(k1.in_.set to y')[b']?=some s:=hs
     have ht2:(k1.in_.set to y')[to']?=some t:=ht
     rw[hget b',if_neg hne] at hs2
     rw[hget to'] at ht2
     by_cases e:to'=to
     ·subst e
      rw[if_pos rfl] at ht2;cases ht2
      exact hc s y to' j v hs2 hto' hy hj (hsub j hb1).1
     ·rw[if_neg e] at ht2
      exact hc s t to' j v hs2 hto' ht2 hj hb1
    have hts:=tot_set (idl f).length y' k1.in_ to y hy
    cases ch with
    |false=>
     have hyy:=hsame rfl
     have hsid:k1.in_.set to y'=k1.in_:=by
      apply List.ext_getElem?
      intro t
      rw[hget t]
      by_cases e:t=to
      ·subst e;rw[if_pos rfl,hyy,hy]
      ·rw[if_neg e]
     have hb1:(if(false:Bool)=true then(pzs fuel (embN w1) (to:Int)).bind fun r13=>some (!r13) else some false)=some false:=by simp
     simp only[hlt,decide_true,if_true,zY hz,Option.bind_some,zY hy,eA,hb1,hset,Bool.false_eq_true,if_false]
     refine⟨_,rfl,⟨i+1,w1,rfl,wrap1 (by omega),by omega,hK2,hnd,hlt1,?_,?_,hE2,?_⟩,hm⟩
     ·intro b' h1 h2 h3
      show clo f ⟨k1.f,k1.ids,k1.in_.set to y'⟩ b'
      rw[hsid];exact hcl b' h1 h2 h3
     ·intro h1
      show(k1.in_.set to y')[b]?=some s0
      rw[hsid];exact hbb h1
     ·show tot _ (k1.in_.set to y')+_≤_
      rw[hsid];exact hM
    |true=>
     obtain⟨j0,hj0,hne0⟩:=hch rfl
     have hdec:=cnt_lt (s:=y') (t:=y) (fun j h=>(hsub j h).1) hne0 _ hj0
     by_cases hcw:to∈w1
     ·have hb1:(if(true:Bool)=true then(pzs fuel (embN w1) (to:Int)).bind fun r13=>some (!r13) else some false)=some false:=by
       rw[if_pos rfl,hin,decide_eq_true (hmem.2 hcw)];rfl
      simp only[hlt,decide_true,if_true,zY hz,Option.bind_some,zY hy,eA]
      rw[show((pzs fuel (embN w1) (to:Int)).bind fun r13=>some (!r13))=some false by rw[hin,decide_eq_true (hmem.2 hcw)];rfl]
      simp only[Option.bind_some,hset,Bool.false_eq_true,if_false]
      refine⟨_,rfl,⟨i+1,w1,rfl,wrap1 (by omega),by omega,hK2,hnd,hlt1,?_,?_,hE2,?_⟩,hm⟩
      ·intro b' h1 h2 h3
       exact hcl2 b' h1 (by intro e;subst e;exact h3 hcw) (hcl b' h1 h2 h3)
      ·intro h1
       show(k1.in_.set to y')[b]?=some s0
       rw[hget b,if_neg (by intro e;subst e;exact h1 hcw)];exact hbb h1
      ·show tot _ (k1.in_.set to y')+_≤_
       omega
     ·simp only[hlt,decide_true,if_true,zY hz,Option.bind_some,zY hy,eA]
      rw[show((pzs fuel (embN w1) (to:Int)).bind fun r13=>some (!r13))=some true by rw[hin,decide_eq_false (fun h=>hcw (hmem.1 h))];rfl]
      simp only[Option.bind_some,hset,if_true,happ]
      refine⟨_,rfl,⟨i+1,w1++[to],rfl,wrap1 (by omega),by omega,hK2,?_,?_,?_,?_,hE2,?_⟩,hm⟩
      ·rw[List.nodup_append]
       exact⟨hnd,by simp,fun a ha b hb=>by rw[List.mem_singleton] at hb;subst hb;exact fun e=>hcw (e▸ha)⟩
      ·intro x hx
       rcases List.mem_append.1 hx with hx|hx
       ·exact hlt1 x hx
       ·rw[List.mem_singleton.1 hx];exact hto
      ·intro b' h1 h2 h3
       have h4:b'∉w1:=fun h=>h3 (List.mem_append.2 (.inl h))
       have h5:b'≠to:=fun e=>h3 (List.mem_append.2 (.inr (by simp[e])))
       exact hcl2 b' h1 h5 (hcl b' h1 h2 h4)
      ·intro h1
       have h4:b∉w1:=fun h=>h1 (List.mem_append.2 (.inl h))
       have h5:b≠to:=fun e=>h1 (List.mem_append.2 (.inr (by simp[e])))
       show(k1.in_.set to y')[b]?=some s0
       rw[hget b,if_neg h5];exact hbb h4
      ·show tot _ (k1.in_.set to y')+_≤_
       rw[List.length_append,List.length_singleton]
       omega
   ·right;left
    have hlt: ¬(i:Int)<((TT f b).length:Int):=by omega
    simp only[hlt,decide_false,Bool.false_eq_true,if_false]
    refine⟨_,rfl,w1,rfl,hK,hnd,hlt1,?_,hM⟩
    intro b' h1 h2
    by_cases e:b'=b
    ·subst e
     intro s t to j v hs hto ht hj hb1
     have hs:k1.in_[b']?=some s:=hs
     rw[hbb h2] at hs;cases hs
     have:=hE to (by rw[List.take_of_length_le (by omega)];exact hto) t ht j hb1
     rcases (ho j).1 this with h3|⟨v',h3,h4⟩
     ·exact .inl h3
     ·rw[hj] at h3;cases h3;exact .inr h4
    ·exact hcl b' h1 e h2) fuel (embN w,0,k) ⟨0,w,rfl,rfl,by omega,hk,hw,hwl,hc,fun _=>hs0,by simp,Nat.le_refl _⟩ (by simp;omega)
 rcases key with ⟨⟨wt,x,k'⟩,h1,w1,h2,h3⟩|⟨v,_,h⟩
 ·simp only at h2 h3
  subst h2
  exact⟨w1,x,k',h1,h3⟩
 ·exact h.elim
end
end Go.Proofs.YtjjdblcinoikeaaDoor.PL
set_option linter.unusedVariables false
set_option linter.unusedSectionVars false
set_option linter.unusedSimpArgs false
namespace Go.Proofs.YtjjdblcinoikeaaDoor.PL
open Go
theorem embN_cons(b:Nat)(w:List Nat):embN (b::w)=(b:Int)::embN w:=rfl
section
variable {f:Fnc} (hn:fBa f) {fuel:Nat} (hf:17592186044416<fuel)
include hn hf
theorem asg_loop{g:zV}(hg:g.succ.length=f.blocks.length)(h2: ∀j:Nat,j<f.blocks.length→g.succ[j]?=some (TT f j)){k:zG}(hk:KInv f k){w:List Nat}(hw:w.Nodup)(hwl: ∀x∈w,x<f.blocks.length)
  (hc: ∀b'<f.blocks.length,b'∉w→clo f k b'): ∃x k',loopE fuel (fun s=>pz1o fuel f g s.1 s.2) (embN w,k)=some (.n (x,k'))∧KInv f k'∧ ∀b'<f.blocks.length,clo f k' b':=by
 have hil:=yzF f
 have hr:=hn.2.1
 have hnb:=hn.1.1
 have key:=yD (ρ:=zG) (fun q:List Int×zG=> ∃w:List Nat,q.1=embN w∧KInv f q.2∧w.Nodup∧(∀x∈w,x<f.blocks.length)∧ ∀b'<f.blocks.length,b'∉w→clo f q.2 b')
  (fun q=>KInv f q.2∧ ∀b'<f.blocks.length,clo f q.2 b') (fun _=>False) (fun q=>tot (idl f).length q.2.in_+q.1.length)
  (fun s=>pz1o fuel f g s.1 s.2) (by
   rintro⟨wt,k⟩ ⟨w,hwt,hK,hnd,hlt,hcl⟩
   simp only at hwt hK hcl
   subst hwt
   show(∃s',pz1o fuel f g (embN w) k=some (.n s')∧_)∨(∃s',pz1o fuel f g (embN w) k=some (.b s')∧_)∨_
   unfold pz1o
   cases w with
   |nil=>
    right;left
    exact⟨_,rfl,hK,fun b' h=>hcl b' h (by simp)⟩
   |cons b w=>
    left
    obtain⟨hbw,hnd2⟩:=List.nodup_cons.1 hnd
    have hbn:=hlt b (by simp)
    obtain⟨bl,hbl⟩:=getAt (xs:=f.blocks) (i:=b) hbn
    obtain⟨s0,hs0⟩:=getAt (xs:=k.in_) (i:=b) (by rw[hK.hl];exact hbn)
    obtain⟨o,eo,hoV,hoB⟩:=through_ok hn hf hK hbl hs0 (Nat.le_refl _)
    have hsl:sli (embN (b::w)) 1 ((embN (b::w)).length:Int)=some (embN w):=by
     unfold sli
     rw[embN_cons,if_pos (by simp;omega)]
     simp
    have hlt0:(0:Int)<((embN (b::w)).length:Int):=by rw[embN_cons];simp
    have hi0:idx (embN (b::w)) 0=some (b:Int):=by rw[embN_cons];rfl
    have hsu:=gsucc_ok hn.1 (fuel:=fuel) hg h2 hbn
    obtain⟨w',x,k',e5,hK',hnd',hlt',hcl',hM'⟩:=asg_b5 hn hf hK hbn hs0 hoV (fun j=>by
     rw[hoB j]
     constructor
     ·rintro(h|⟨v,h1,h2⟩)
      ·exact .inl h
      ·exact .inr ⟨v,h1,(gbN_all hn hf hbl).1 h2⟩
     ·rintro(h|⟨v,h1,h2⟩)
      ·exact .inl h
      ·exact .inr ⟨v,h1,(gbN_all hn hf hbl).2 h2⟩) hnd2 (fun x hx=>hlt x (by simp[hx])) hbw (fun b' h1 h2 h3=>hcl b' h1 (by simp[h2,h3]))
    simp only[hlt0,decide_true,if_true,hi0,Option.bind_some,hsl,zY hbl,eo,hsu,e5,bindE]
    refine⟨_,rfl,⟨w',rfl,hK',hnd',hlt',hcl'⟩,?_⟩
    show tot _ k'.in_+(embN w').length<tot _ k.in_+(embN (b::w)).length
    have h1:(embN w').length=w'.length:=by simp[embN]
    have h2:(embN (b::w)).length=w.length+1:=by simp[embN]
    omega) fuel (embN w,k) ⟨w,rfl,hk,hw,hwl,hc⟩ (by
   show tot _ k.in_+(embN w).length<fuel
   have h1:=tot_bd (idl f).length k.in_
   have h2:=kV _ w hw hwl
   have h3:(embN w).length=w.length:=by simp[embN]
   have h4:k.in_.length*(64*(((idl f).length+63)/64))≤1048576*1048640:=Nat.mul_le_mul (by rw[hk.hl];exact hnb) (by omega)
   omega)
 rcases key with ⟨⟨x,k'⟩,h1,h2⟩|⟨v,_,h⟩
 ·exact⟨x,k',h1,h2⟩
 ·exact h.elim
theorem assign_ok: ∃k,pz1p fuel f=some k∧KInv f k∧ ∀b'<f.blocks.length,clo f k b':=by
 have hil:=yzF f
 have hr:=hn.2.1
 have hnb:=hn.1.1
 unfold pz1p
 rw[asg_b1 hn hf]
 have hsort:pz6 fuel (f.regs.map fun r=>r.id)=some (isort (f.regs.map fun r=>r.id)):=by
  unfold pz6;rw[if_pos (by simp;omega)]
 have hcomp:pz7 fuel (isort (f.regs.map fun r=>r.id))=some (idl f):=by
  unfold pz7
  have h2:=(yzV (f.regs.map fun r=>r.id)).length_eq
  rw[List.length_map] at h2
  rw[if_pos (by omega)];rfl
 obtain⟨S,hS,hSV,hSB⟩:=full_ok (n:=(idl f).length) (by omega) (fuel:=fuel) (by omega)
 obtain⟨x2,h2⟩:=asg_b2 hn hf hS
 simp only[bindE,hsort,hcomp,Option.bind_some,h2]
 by_cases c0:f.blocks.length=0
 ·rw[if_pos (by simp[c0])]
  refine⟨_,rfl,⟨rfl,rfl,by simp,?_,?_,?_,?_⟩,fun b' h=>by omega⟩
  ·intro s hs;simp[c0] at hs
  ·intro b j s v hs;simp[c0] at hs
  ·intro j s v hs;simp[c0] at hs
  ·intro s hs;simp[c0] at hs
 ·rw[if_neg (by rw[decide_eq_true_eq];omega)]
  obtain⟨s0,e3,hV0,hB0⟩:=new_ok (n:=(idl f).length) (by omega) fuel
  obtain⟨s1,x3,e4,hV1,hB1⟩:=asg_b3 hn hf (List.replicate f.blocks.length S) hV0 hB0
  obtain⟨g,eg,hg1,hg2,hg3,hg4⟩:=new_f hn.1 (fuel:=fuel) (by omega)
  obtain⟨w,eo,hP,hwl⟩:=order_ok hn.1 (fuel:=fuel) hg3 hg1 hf (by omega)
  have hi0:idx (List.replicate f.blocks.length S) 0=some S:=idx_ok (by omega) (by rw[show(0:Int).toNat=0 from rfl,List.getElem?_replicate,if_pos (by omega)])
  have hset:setI (List.replicate f.blocks.length S) 0 s1=some ((List.replicate f.blocks.length S).set 0 s1):=kL (i:=0) (by simp;omega)
  have hget: ∀t:Nat,((List.replicate f.blocks.length S).set 0 s1)[t]?=if t=0 then some s1 else if t<f.blocks.length then some S else none:=by
   intro t
   by_cases e:t=0
   ·subst e;rw[List.getElem?_set_self (by simp;omega),if_pos rfl]
   ·rw[List.getElem?_set_ne (by omega),if_neg e,List.getElem?_replicate]
  have hwlt: ∀x∈w.reverse,x<f.blocks.length:=by
   intro x hx
   have:=(hP.mem x).1 (List.mem_reverse.1 hx)
   exact Path.closed (C:=fun j=>j<f.blocks.length) (fun a b _ hE _=>TT_lt hn.1 hE) this (by omega)
  have hK:KInv f ⟨f,idl f,(List.replicate f.blocks.length S).set 0 s1⟩:=by
   refine⟨rfl,rfl,by simp,?_,?_,?_,?_⟩
   ·intro s hs
    rcases List.mem_or_eq_of_mem_set hs with hs|rfl
    ·rw[(List.mem_replicate.1 hs).2];exact hSV
    ·exact hV1
   ·intro b j s v hs hj hb0
    have hs:((List.replicate f.blocks.length S).set 0 s1)[b]?=some s:=hs
    rw[hget b] at hs
    by_cases e:b=0
    ·subst e
     rw[if_pos rfl] at hs;cases hs
     refine⟨fun hp=>?_,.one trivial⟩
     rw[(hB1 j).2 ⟨v,hj,hp⟩] at hb0;cases hb0
    ·rw[if_neg e] at hs
     split at hs
     ·cases hs
      rw[hSB j,decide_eq_true (List.getElem?_eq_some_iff.1 hj).1] at hb0;cases hb0
     ·cases hs
   ·intro j s v hs hj hp
    have hs:((List.replicate f.blocks.length S).set 0 s1)[0]?=some s:=hs
    rw[hget 0,if_pos rfl] at hs;cases hs
    cases c:bH s1 j
    ·rfl
    ·obtain⟨v',h1,h2⟩:=(hB1 j).1 c
     rw[hj] at h1;cases h1;exact absurd h2 hp
   ·intro s hs j hj
    rcases List.mem_or_eq_of_mem_set hs with hs|rfl
    ·rw[(List.mem_replicate.1 hs).2,hSB j] at hj
     exact of_decide_eq_true hj
    ·obtain⟨v,h1,_⟩:=(hB1 j).1 hj
     exact(List.getElem?_eq_some_iff.1 h1).1
  have h0w:0∈w.reverse:=List.mem_reverse.2 (List.mem_of_getLast? hP.last)
  obtain⟨x,k',e5,hK',hC'⟩:=asg_loop hn hf hg1 hg3 hK (w:=w.reverse) ((List.reverse_perm w).nodup_iff.2 hP.nd) hwlt (by
   intro b' hb' hno s t to j v hs _ _ hj _
   have hs:((List.replicate f.blocks.length S).set 0 s1)[b']?=some s:=hs
   rw[hget b',if_neg (by intro e;subst e;exact hno h0w),if_pos hb'] at hs
   cases hs
   left
   rw[hSB j,decide_eq_true (List.getElem?_eq_some_iff.1 hj).1])
  simp only[e3,Option.bind_some,e4,hi0,hset,eg,eo,e5]
  exact⟨k',rfl,hK',hC'⟩
theorem sure_iff{k:zG}(hK:KInv f k)(hC: ∀b'<f.blocks.length,clo f k b'){b j:Nat}{s:zD}{v:Int}(hs:k.in_[b]?=some s)(hj:(idl f)[j]?=some v):bH s j=true↔ ¬Wo f v b:=by
 constructor
 ·intro h hw
  have: ∀b,Wo f v b→ ∀s,k.in_[b]?=some s→bH s j=false:=by
   intro b hw
   refine Path.closed (C:=fun b=> ∀s,k.in_[b]?=some s→bH s j=false) ?_ hw.2 ?_
   ·intro a c ha hE _ t ht
    obtain⟨h1,h2⟩:=hE
    have ha2:a<f.blocks.length:=TT_fst h1
    obtain⟨q,hq⟩:=getAt (xs:=k.in_) (i:=a) (by rw[hK.hl];exact ha2)
    cases c2:bH t j
    ·rfl
    ·rcases hC a ha2 q t c j v hq h1 ht hj c2 with h3|h3
     ·rw[ha q hq] at h3;cases h3
     ·exact absurd h3 h2
   ·intro s hs
    exact hK.d0 j s v hs hj hw.1
  rw[this b hw s hs] at h;cases h
 ·intro h
  cases c:bH s j
  ·exact absurd (hK.d1 b j s v hs hj c) h
  ·rfl
end
end Go.Proofs.YtjjdblcinoikeaaDoor.PL
set_option linter.unusedVariables false
set_option linter.unusedSectionVars false
set_option linter.unusedSimpArgs false
namespace Go.Proofs.YtjjdblcinoikeaaDoor.PL
open Go
def sr(f:Fnc)(b i:Nat)(v:Int):Prop:=v∈idl f∧(¬Wo f v b∨gbN f b i v)
section
variable {f:Fnc} (hn:fBk f) {fuel:Nat} (hf:17592186044416<fuel) {k:zG} (hK:KInv f k) (hC: ∀b'<f.blocks.length,clo f k b')
include hn hf hK hC
end
end Go.Proofs.YtjjdblcinoikeaaDoor.PL
set_option linter.unusedVariables false
set_option linter.unusedSectionVars false
set_option linter.unusedSimpArgs false
namespace Go.Proofs.YtjjdblcinoikeaaDoor.PL
open Go
def bls(s:zD)(m:Nat):List Nat:=(List.range m).filter (bH s)
theorem bitsL_eq: ∀(ws:List Int) (k:Nat),bitsL k ws=((List.range (64*ws.length)).filter fun j=>match ws[j/64]? with|some w=>w.toNat.testBit (j%64)|none=>false).map fun(j:Nat)=>((64*k+j:Nat):Int)
 |[],k=>by simp[bitsL]
 |w::ws,k=>by
  rw[bitsL,bitsL_eq ws (k+1),show 64*(w::ws).length=64+64*ws.length by simp;omega,List.range_add,List.filter_append,List.map_append,List.filter_map,List.map_map]
  have e0:bitsW k w.toNat=((List.range 64).filter fun j=>match (w::ws)[j/64]? with|some w=>w.toNat.testBit (j%64)|none=>false).map fun(j:Nat)=>((64*k+j:Nat):Int):=by
   unfold bitsW
   refine congrArg _ (List.filter_congr fun j hj=>?_)
   have hj:=List.mem_range.1 hj
   rw[show j/64=0 by omega,show j%64=j by omega];rfl
  have e1:((fun j=>match (w::ws)[j/64]? with|some w=>w.toNat.testBit (j%64)|none=>false)∘fun x=>64+x)=fun j=>match ws[j/64]? with|some w=>w.toNat.testBit (j%64)|none=>false:=by
   funext j
   show(match (w::ws)[(64+j)/64]? with|some w=>w.toNat.testBit ((64+j)%64)|none=>false)=_
   rw[show(64+j)/64=j/64+1 by omega,show(64+j)%64=j%64 by omega,List.getElem?_cons_succ]
  rw[e0,e1]
  congr 1
  apply List.map_congr_left
  intro j _
  show((64*(k+1)+j:Nat):Int)=((64*k+(64+j):Nat):Int)
  congr 1;omega
theorem bitsL_set{s:zD}{n:Nat}(hV:bV s n)(ht: ∀j,bH s j=true→j<n):bitsL 0 s.words=(bls s n).map fun(j:Nat)=>(j:Int):=by
 have h1:64*s.words.length=n+(64*s.words.length-n):=by rw[hV.2.1];omega
 have h2:((List.range (64*s.words.length)).filter fun j=>match s.words[j/64]? with|some w=>w.toNat.testBit (j%64)|none=>false)=bls s n:=by
  rw[h1,List.range_add,List.filter_append]
  have:((List.range (64*s.words.length-n)).map fun x=>n+x).filter (fun j=>match s.words[j/64]? with|some w=>w.toNat.testBit (j%64)|none=>false)=[]:=by
   rw[List.filter_eq_nil_iff]
   intro j hj
   obtain⟨x,_,rfl⟩:=List.mem_map.1 hj
   intro h
   have:=ht (n+x) h
   omega
  rw[this,List.append_nil];rfl
 rw[bitsL_eq,h2]
 apply List.map_congr_left
 intro j _
 congr 1;omega
theorem walk_l{s:zD}{n:Nat}(hV:bV s n)(hn:n≤4294967)(ht: ∀j,bH s j=true→j<n){fuel:Nat}(hf:n+100<fuel):yk fuel s=some ((bls s n).map fun(j:Nat)=>(j:Int)):=by
 unfold yk
 have:=hV.2.1
 rw[if_pos ⟨by omega,by omega,by omega,hV.2.2⟩,bitsL_set hV ht]
def lst(l:List Int)(s:zD):List Int:=(bls s l.length).filterMap fun j=>l[j]?
theorem lst_mem{l:List Int}{s:zD}{v:Int}:v∈lst l s↔ ∃j,bH s j=true∧l[j]?=some v:=by
 unfold lst bls
 rw[List.mem_filterMap]
 constructor
 ·rintro⟨j,h1,h2⟩
  exact⟨j,(List.mem_filter.1 h1).2,h2⟩
 ·rintro⟨j,h1,h2⟩
  exact⟨j,List.mem_filter.2 ⟨List.mem_range.2 (List.getElem?_eq_some_iff.1 h2).1,h1⟩,h2⟩
theorem lst_rise{l:List Int}(hr:Rise l)(s:zD):Rise (lst l s):=by
 unfold lst bls
 refine List.Pairwise.filterMap _ ?_ (List.Pairwise.filter _ List.pairwise_lt_range)
 intro a b hab x hx y hy
 exact hr.lt hx hy hab
theorem lst_len(l:List Int)(s:zD):(lst l s).length≤l.length:=by
 unfold lst bls
 refine Nat.le_trans (List.length_filterMap_le _ _) ?_
 have:=List.length_filter_le (bH s) (List.range l.length)
 simpa using this
theorem list_fold{k:zG}(fuel:Nat): ∀(js:List Nat) (out:List Int),(∀j∈js,j<k.ids.length)→out.length+js.length≤4294967→
  rangeE (fun s x=>pz1z fuel k x s) out (js.map fun(j:Nat)=>(j:Int))=some (.n (out++js.filterMap fun j=>k.ids[j]?))
 |[],out,_,_=>by simp[rangeE]
 |j::js,out,h,hl=>by
  obtain⟨v,hv⟩:=getAt (h j (by simp))
  have hl':out.length+(js.length+1)≤4294967:=by simpa using hl
  have e:pz1z fuel k (j:Int) out=some (.n (out++[v])):=by
   unfold pz1z
   rw[zY hv,Option.bind_some,yQ (by simp;omega)];rfl
  rw[List.map_cons,rangeE,e,Option.bind_some]
  simp only
  rw[list_fold fuel js (out++[v]) (fun x hx=>h x (by simp[hx])) (by simp;omega),List.filterMap_cons,hv,List.append_assoc];rfl
theorem list_ok{k:zG}{s:zD}(hV:bV s k.ids.length)(hn:k.ids.length≤2097152)(ht: ∀j,bH s j=true→j<k.ids.length){fuel:Nat}(hf:k.ids.length+100<fuel):pz20 fuel k s=some (lst k.ids s):=by
 unfold pz20 pz1u
 rw[Option.bind_some,walk_l hV (by omega) ht hf,Option.bind_some]
 have hb:(bls s k.ids.length).length≤k.ids.length:=by
  unfold bls
  have:=List.length_filter_le (bH s) (List.range k.ids.length)
  simpa using this
 rw[list_fold fuel (bls s k.ids.length) [] (fun j hj=>List.mem_range.1 (List.mem_filter.1 hj).1) (by simp;omega)]
 rfl
section
variable {f:Fnc} (hn:fBa f) {fuel:Nat} (hf:17592186044416<fuel) {k:zG} (hK:KInv f k) (hC: ∀b'<f.blocks.length,clo f k b')
include hn hf hK hC
theorem before_ok{b m:Nat}{bl:Bl}(hb:f.blocks[b]?=some bl)(hm:m≤bl.code.length): ∃l,pz21 fuel k (b:Int) (m:Int)=some l∧Rise l∧l.length≤1048576∧ ∀v,v∈l↔sr f b m v:=by
 have hil:=yzF f
 have hr:=hn.2.1
 have hbl:b<f.blocks.length:=(List.getElem?_eq_some_iff.1 hb).1
 obtain⟨s,hs⟩:=getAt (xs:=k.in_) (i:=b) (by rw[hK.hl];exact hbl)
 obtain⟨o,e,hV,hB⟩:=through_ok hn hf hK hb hs hm
 have e':pz18 fuel k (b:Int) (m:Int)=some o:=e
 have ht: ∀j,bH o j=true→j<(idl f).length:=by
  intro j hj
  rcases (hB j).1 hj with h|⟨v,h,_⟩
  ·exact hK.ht s (List.mem_of_getElem? hs) j h
  ·exact(List.getElem?_eq_some_iff.1 h).1
 have hkf:idx k.f.blocks (b:Int)=some bl:=by rw[hK.hf];exact zY hb
 have hl:=list_ok (k:=k) (s:=o) (by rw[hK.hi];exact hV) (by rw[hK.hi];omega) (by rw[hK.hi];exact ht) (fuel:=fuel) (by rw[hK.hi];omega)
 have c1: ¬((b:Int)<0):=by omega
 have c2: ¬((k.in_.length:Int)≤(b:Int)):=by rw[hK.hl];omega
 have c3: ¬((m:Int)<0):=by omega
 have c4: ¬((bl.code.length:Int)<(m:Int)):=by omega
 refine⟨lst (idl f) o,?_,lst_rise (zzN f) o,by have:=lst_len (idl f) o;omega,fun v=>?_⟩
 ·unfold pz21
  simp only[c1,c2,c3,c4,decide_false,Bool.or_self,Bool.false_eq_true,if_false,hkf,Option.bind_some,e',hl,hK.hi]
 ·rw[lst_mem]
  unfold sr
  constructor
  ·rintro⟨j,h1,h2⟩
   refine⟨List.mem_of_getElem? h2,?_⟩
   rcases (hB j).1 h1 with h|⟨v',h3,h4⟩
   ·exact .inl ((sure_iff hn hf hK hC hs h2).1 h)
   ·rw[h2] at h3;cases h3;exact .inr h4
  ·rintro⟨h1,h2⟩
   obtain⟨j,hj⟩:=List.getElem?_of_mem h1
   refine⟨j,(hB j).2 ?_,hj⟩
   rcases h2 with h2|h2
   ·exact .inl ((sure_iff hn hf hK hC hs hj).2 h2)
   ·exact .inr ⟨v,hj,h2⟩
end
end Go.Proofs.YtjjdblcinoikeaaDoor.PL
set_option linter.unusedVariables false
set_option linter.unusedSectionVars false
set_option linter.unusedSimpArgs false
set_option maxRecDepth 100000
namespace Go.Proofs.YtjjdblcinoikeaaDoor.PL
open Go
abbrev FU:Nat:=1152921504606846976
theorem works_ok:pz24 FU=some true:=by decide+kernel
theorem FU_big:17592186044416<FU:=by decide
theorem forE_tot{σ ρ:Type}(I:Nat→σ→Prop)(f:Int→σ→Option (Ex σ ρ))(n:Nat)(step: ∀i s,i<n→I i s→(∃s',f (i:Int) s=some (.n s')∧I (i+1) s')∨ ∃s',f (i:Int) s=some (.b s')):
  ∀(m i:Nat) (s:σ),i+m=n→I i s→ ∃s',forE m (i:Int) f s=some (.n s'):=by
 intro m
 induction m with
 |zero=>intro i s h hI;exact⟨s,rfl⟩
 |succ m ih=>
  intro i s h hI
  rcases step i s (by omega) hI with ⟨s1,h1,h2⟩|⟨v,h1⟩
  ·rw[forE,h1]
   exact ih (i+1) s1 (by omega) h2
  ·rw[forE,h1]
   exact⟨v,rfl⟩
theorem toE_tot{σ ρ:Type}(I:Nat→σ→Prop)(f:Int→σ→Option (Ex σ ρ))(n:Nat)(hn:n≤4294967296){s:σ}(h0:I 0 s)(step: ∀i s,i<n→I i s→(∃s',f (i:Int) s=some (.n s')∧I (i+1) s')∨ ∃s',f (i:Int) s=some (.b s')):
  ∃s',toE 0 (n:Int) f s=some (.n s'):=by
 unfold toE
 rw[if_pos (by constructor<;>omega)]
 simpa using forE_tot I f n step n 0 s (by omega) h0
section
variable {f:Fnc} {n:Nat} (hM:MOk n f) (hn1:1≤n) (hn9:n≤9)
include hM hn1 hn9
theorem mok_fBa:fBa f:=⟨mok_fOk hM hn9,by have:=hM.regs;omega,by have:=hM.pars;omega⟩
variable {k:zG} (hK:KInv f k) (hC: ∀b'<f.blocks.length,clo f k b')
include hK hC
def hasAt(f:Fnc)(b i:Nat)(has:List Int):Prop:= ∀v,v∉has→Wo f v b∧ ¬gbN f b i v
theorem ways_b3{b i:Nat}{bl:Bl}(hb:f.blocks[b]?=some bl)(hi:i<bl.code.length){has:List Int}(hl:has.length≤100000000)(hh:hasAt f b i has):
  ∃has',pz2r FU k (b:Int) bl (i:Int) has=some (.n has')∧has'.length≤has.length+1∧hasAt f b (i+1) has':=by
 obtain⟨l,e,_,hll,hv⟩:=before_ok (mok_fBa hM hn1 hn9) FU_big hK hC hb (Nat.le_of_lt hi)
 have k1:=toE_tot (σ:=Unit) (ρ:=Ex (List Int) (Ex (List Int×Int) Bool)) (fun _ _=>True) (fun j _=>pz2q FU has l j) l.length (by omega) (s:=()) trivial (by
  intro j _ hj _
  obtain⟨v,hvj⟩:=getAt hj
  have hin:v∈has:=by
   apply Classical.byContradiction
   intro h
   obtain⟨h1,h2⟩:=hh v h
   rcases ((hv v).1 (List.mem_of_getElem? hvj)).2 with h3|h3
   ·exact h3 h1
   ·exact h2 h3
  left
  refine⟨(),?_,trivial⟩
  unfold pz2q
  simp only[zY hvj,Option.bind_some,in_ref (show has.length≤4294967296 by omega),decide_eq_true hin,Bool.not_true,Bool.false_eq_true,if_false])
 obtain⟨_,k1⟩:=k1
 obtain⟨x,hx⟩:=getAt hi
 have htk: ∀v,gbN f b (i+1) v→gbN f b i v∨gv x=some v:=by
  rintro v ⟨bl',h1,y,h2,h3⟩
  rw[hb] at h1;cases h1
  rw[List.take_add_one,hx,Option.toList_some,List.mem_append,List.mem_singleton] at h2
  rcases h2 with h2|rfl
  ·exact .inl ⟨bl,hb,y,h2,h3⟩
  ·exact .inr h3
 unfold pz2r
 rw[e,Option.bind_some,k1]
 simp only[bindE,zY hx,Option.bind_some]
 by_cases c:x.dst.kind=1
 ·rw[if_pos (by simpa using c),yQ (by simp;omega)]
  refine⟨_,rfl,by simp,fun v hv'=>?_⟩
  rw[List.mem_append,List.mem_singleton,not_or] at hv'
  obtain⟨h1,h2⟩:=hh v hv'.1
  refine⟨h1,fun h=>?_⟩
  rcases htk v h with h3|h3
  ·exact h2 h3
  ·unfold gv at h3
   rw[if_pos c] at h3
   cases h3;exact hv'.2 rfl
 ·rw[if_neg (by simpa using c)]
  refine⟨_,rfl,by omega,fun v hv'=>?_⟩
  obtain⟨h1,h2⟩:=hh v hv'
  refine⟨h1,fun h=>?_⟩
  rcases htk v h with h3|h3
  ·exact h2 h3
  ·unfold gv at h3
   rw[if_neg c] at h3;cases h3
theorem ways_b2{turns:List Int}(ht: ∀t∈turns,u8 t){q b:Nat}(hq:q<turns.length)(hbn:b<n){has:List Int}(hl:has.length≤50000000)(hh: ∀v,v∉has→Wo f v b):
  (∃has' b',pz2s FU turns f k (q:Int) has (b:Int)=some (.n (has',((b':Nat):Int)))∧b'<n∧has'.length≤has.length+1000013∧ ∀v,v∉has'→Wo f v b')∨ ∃s,pz2s FU turns f k (q:Int) has (b:Int)=some (.b s):=by
 obtain⟨bl,hb⟩:=getAt (xs:=f.blocks) (i:=b) (by rw[hM.len];exact hbn)
 have B:=hM.blk b bl hb
 have hcl:=B.len
 obtain⟨x,hx,hL⟩:=B.last
 have hc0:0<bl.code.length:=by have:=(List.getElem?_eq_some_iff.1 hx).1;omega
 have ew:IntKind.wrap .i64 ((bl.code.length:Int)-1)=((bl.code.length-1:Nat):Int):=by rw[zt (by omega) (by omega)];omega
 have k1:=toE_inv (σ:=List Int) (ρ:=Ex (List Int×Int) Bool) (fun i s=>s.length≤has.length+i∧hasAt f b i s) (fun _=>False) (fun i s=>pz2r FU k (b:Int) bl i s) bl.code.length (by omega) (s:=has)
  ⟨by omega,fun v hv=>⟨hh v hv,by rintro⟨_,_,y,h,_⟩;simp at h⟩⟩ (by
  rintro i s hi ⟨h1,h2⟩
  obtain⟨s',e,h3,h4⟩:=ways_b3 hM hn1 hn9 hK hC hb hi (by omega) h2
  exact .inl ⟨s',e,by omega,h4⟩)
 rcases k1 with ⟨s,e,h1,h2⟩|⟨_,_,h⟩
 ·unfold pz2s
  simp only[zY hb,Option.bind_some,e,bindE,ew,zY hx]
  by_cases c:x.labels.length=0
  ·right
   rw[if_pos (by rw[decide_eq_true_eq];omega)]
   exact⟨_,rfl⟩
  ·left
   rw[if_neg (by rw[decide_eq_true_eq];omega)]
   obtain⟨t,htq⟩:=getAt hq
   have hu:=ht t (List.mem_of_getElem? htq)
   obtain⟨r0,r1⟩:=zzp hu.1 (show(0:Int)<(x.labels.length:Int) by omega)
   have hr:rem (IntKind.wrap .i64 t) (x.labels.length:Int)=some (Int.tmod t (x.labels.length:Int)):=by
    unfold rem
    rw[wrap8 hu,if_neg (by omega)]
   obtain⟨l,hl'⟩:=getAt (xs:=x.labels) (i:=(Int.tmod t (x.labels.length:Int)).toNat) (by omega)
   have hli:idx x.labels (Int.tmod t (x.labels.length:Int))=some l:=idx_ok r0 hl'
   obtain⟨j,j1,j2,rfl⟩:=hL.to l (List.mem_of_getElem? hl')
   have hfn:=mok_fnd hM hn9 j2
   simp only[zY htq,Option.bind_some,hr,hli,fnd_ref (mok_fOk hM hn9) FU,hfn]
   refine⟨s,j,rfl,j2,by omega,fun v hv=>?_⟩
   obtain⟨w1,w2⟩:=h2 v hv
   have hE:((j:Nat):Int)∈TT f b:=by
    have:TT f b=tgl f x.labels:=by
     unfold TT
     rw[hb]
     show tg f bl=_
     unfold tg lastB
     rw[hx]
     simp only[hL.op,and_self,if_true]
    rw[this,←hfn]
    exact tgl_mem (List.mem_of_getElem? hl') (by rw[hfn];omega)
   exact Wo_step (mok_fBa hM hn1 hn9) FU_big w1 hE fun hg=>w2 ((gbN_all (mok_fBa hM hn1 hn9) FU_big hb).2 hg)
 ·exact h.elim
end
theorem law_AssignWays{d:Drf}(hd:rD d)(hs:(d.blocks.map fun b=>1+b.code.length).sum≤1048576){turns:List Int}(ht: ∀t∈turns,u8 t):pz2t FU d turns=some true:=by
 obtain⟨r,e,hr⟩:=many_ok hs FU
 unfold pz2t
 rw[e,Option.bind_some]
 by_cases c:(r||(decide (30<(turns.length:Int))))=true
 ·rw[if_pos c,works_ok];rfl
 ·rw[if_neg c]
  simp only[Bool.or_eq_true,not_or,decide_eq_true_eq] at c
  obtain⟨h9,h60⟩:=hr (by simpa using c.1)
  obtain⟨f,ef,hM⟩:=make_ok hd h9 (fun b hb=>by have:=h60 b hb;omega) (fuel:=FU) (by decide)
  have hn1:1≤max d.blocks.length 1:=by omega
  have hn9:max d.blocks.length 1≤9:=by omega
  have hB:=mok_fBa hM hn1 hn9
  obtain⟨k,ek,hK,hC⟩:=assign_ok hB FU_big
  have hpl:=hM.pars
  have k1:=toN_fold (xs:=f.params) (f:=fun i s=>pz2p FU f i s) (fun s p=>s++[p.n]) (fun s=>True) (by omega) (s0:=([]:List Int)) trivial (by
   intro i x s hx hs _
   have hsl:s.length≤12:=by
    rw[hs,zzt]
    simp
    omega
   refine⟨?_,trivial⟩
   unfold pz2p
   rw[zY hx,Option.bind_some,yQ (by simp;omega)];rfl)
  rw[zzt,List.nil_append] at k1
  rw[ef,Option.bind_some,ek,Option.bind_some,k1,Option.bind_some]
  have k2:=toE_tot (σ:=List Int×Int) (ρ:=Bool) (fun i s=>s.1.length≤12+i*1000013∧ ∃b:Nat,s.2=b∧b<max d.blocks.length 1∧ ∀v,v∉s.1→Wo f v b) (fun i s=>pz2s FU turns f k i s.1 s.2) turns.length (by omega)
   (s:=(f.params.map fun p=>p.n,0)) ⟨by simp;exact hpl,0,rfl,by omega,fun v hv=>⟨fun hp=>by
    obtain⟨p,h1,_,h2⟩:=hp
    exact hv (List.mem_map.2 ⟨p,h1,h2⟩),.one trivial⟩⟩ (by
   rintro i ⟨has,b'⟩ hi ⟨h1,b,h2,h3,h4⟩
   simp only at h1 h2 h4
   subst h2
   rcases ways_b2 hM hn1 hn9 hK hC ht hi h3 (has:=has) (by omega) h4 with ⟨has',b'',e,g1,g2,g3⟩|⟨s,e⟩
   ·exact .inl ⟨(has',(b'':Int)),e,by show has'.length≤_;omega,b'',rfl,g1,g3⟩
   ·exact .inr ⟨s,e⟩)
  obtain⟨s,k2⟩:=k2
  rw[k2]
  simp only[bindE,works_ok,Option.bind_some]
end Go.Proofs.YtjjdblcinoikeaaDoor.PL
set_option linter.unusedVariables false
set_option linter.unusedSimpArgs false
namespace Go.Proofs.YtjjdblcinoikeaaDoor.IL
open Go Go.RowKit PL
theorem zzm{z:Int}(h:(Lit.int .u8 z).wf=true):u8 z:=by
 simp only[Lit.wf,Bool.and_eq_true,decide_eq_true_eq] at h
 have h1:IntKind.u8.min=0:=by decide
 have h2:IntKind.u8.max=255:=by decide
 rw[h1,h2] at h
 exact⟨h.1,by omega⟩
theorem rD_wf{d:Drf}(w:wDrf d):rD d:=by
 obtain⟨h1,h2,h3,h4⟩:=w
 refine⟨zzm h1,zzm h2,zzm h3,fun b hb=>?_⟩
 obtain⟨k1,k2,k3,k4,k5⟩:=h4 b hb
 exact⟨fun y hy=>by obtain⟨q1,q2,q3,q4,_⟩:=k1 y hy;exact⟨zzm q1,zzm q2,zzm q3,zzm q4⟩,zzm k2,zzm k3,zzm k4,zzm k5⟩
theorem bk_Sm{α:Type}(e:α→List IV)(xs:List α):bkL (eS e xs)=bkR (xs.map e)+1:=by simp[eS,bkL,bk]
theorem bk_dbs: ∀bs:List DBl,(bs.map fun b=>1+b.code.length).sum≤bkR (bs.map eDBl)
 |[]=>by simp
 |b::bs=>by
  have h1:=bk_dbs bs
  have h2:1+b.code.length≤bkL (eDBl b):=by
   rw[bk_DBl,bk_Sm]
   have:=bk_len (f:=eDIns) (fun x=>by simp[eDIns]) b.code
   omega
  rw[show(b::bs).map eDBl=eDBl b::bs.map eDBl from rfl,bkR]
  simp only[List.map_cons,List.sum_cons]
  omega
theorem drf_bulk{d:Drf}(h:bkL (eDrf d)≤1048576):(d.blocks.map fun b=>1+b.code.length).sum≤1048576:=by
 rw[bk_Drf,bk_Sm] at h
 have:=bk_dbs d.blocks
 omega
end Go.Proofs.YtjjdblcinoikeaaDoor.IL
set_option linter.unusedVariables false
namespace Go.Proofs.YtjjdblcinoikeaaDoor.IL
open Go Go.RowKit PL
theorem AssignWays_spec(d:Drf)(w:wDrf d)(h:bkL (eDrf d)≤1048576)(l:List Int)(wl: ∀x∈l,(Lit.int .u8 x).wf=true)(hl:bkL [.sim (l.map (eI .u8)) false]≤1048576):CallW Tryd.prog 4 [.agg (eDrf d),.sim (l.map (eI .u8)) false] (.nil fun _=>0) fun v _=>v= .bool true:=
 (PCall.at (wz4q (law_AssignWays (rD_wf w) (drf_bulk h) fun x hx=>zzm (wl x hx))) _).mono fun v H' h=>h.1
end Go.Proofs.YtjjdblcinoikeaaDoor.IL
