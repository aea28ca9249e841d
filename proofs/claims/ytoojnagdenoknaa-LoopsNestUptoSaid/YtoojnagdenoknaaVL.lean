/- Plain lemmas for loops over lists. Nothing here speaks of a program. Plain facts about the pure functions: finding a block, is a number in a list, sets of bits. Plain facts about the pure functions: where blocks go on, by the reference and by the graph. Plain facts about the pure functions: what is reached from a block without going through another one, forward and backward. Plain facts about the pure functions: the order of a graph's blocks. Plain facts about the pure functions: which blocks go on with one. Plain: dominators, found round by round. Nothing here speaks of a program. Plain: dominators as the code finds them: where two meet, and one block's step. Plain: dominators as the code finds them: a round. Plain: dominators as the code finds them: the tree, and what it tells. Plain facts about the pure functions: more of sets of bits. Plain: sets of bits taken together. Plain: from which blocks one is reached; which are reached; the pairs of blocks. Plain: the pairs of blocks; the loops as the code finds them. Plain: the loops as the code finds them. Plain: the loops by definition; what is asked of them. Plain: what is asked of the loops that the code finds. Plain facts about the pure functions: whether a function is large is told. Plain: loops lie in one another; how many blocks there are in one. Plain: the innermost loop; the law LoopsNest. -/
import Derived.Test.YtoojnagdenoknaaPM
import Derived.Test.YtoojnagdenoknaaUnP
set_option linter.unnecessarySimpa false
set_option linter.unusedVariables false
namespace Go.Proofs.Ytoojnagdenoknaa.PL
open Go
theorem idx_ok{α:Type}{xs:List α}{i:Int}{x:α}(h0:0≤i)(h:xs[i.toNat]?=some x):idx xs i=some x:=by
 unfold idx;rw[if_pos h0,h]
theorem zS{α:Type}{xs:List α}{i:Nat}{x:α}(h:xs[i]?=some x):idx xs (i:Int)=some x:=idx_ok (by omega) (by simpa using h)
theorem yJ{α:Type}{xs:List α}{i:Nat}{x:α}(h:i<xs.length):setI xs (i:Int) x=some (xs.set i x):=by
 unfold setI;rw[if_pos (by constructor<;>omega)];simp
theorem kV{α:Type}{xs ys:List α}(h:xs.length+ys.length≤4294967296):app xs ys=some (xs++ys):=by
 unfold app;rw[if_pos h]
theorem mk_nat{α:Type}{n:Nat}{z:α}(h:n≤4294967296):mk (n:Int) z=some (List.replicate n z):=by
 unfold mk;rw[if_pos (by constructor<;>omega)];simp
theorem forN_inv{σ:Type}(I:Nat→σ→Prop)(f:Int→σ→Option σ)(n:Nat)(step: ∀i s,i<n→I i s→ ∃s',f (i:Int) s=some s'∧I (i+1) s'):
  ∀(m i:Nat) (s:σ),i+m=n→I i s→ ∃s',forN m (i:Int) f s=some s'∧I n s':=by
 intro m
 induction m with
 |zero=>intro i s h hI;exact⟨s,rfl,by rw[←h];simpa using hI⟩
 |succ m ih=>
  intro i s h hI
  obtain⟨s1,h1,h2⟩:=step i s (by omega) hI
  obtain⟨s2,h3,h4⟩:=ih (i+1) s1 (by omega) h2
  refine⟨s2,?_,h4⟩
  rw[forN,h1]
  exact h3
theorem toN_inv{σ:Type}(I:Nat→σ→Prop)(f:Int→σ→Option σ)(n:Nat)(hn:n≤4294967296){s:σ}(h0:I 0 s)(step: ∀i s,i<n→I i s→ ∃s',f (i:Int) s=some s'∧I (i+1) s'):
  ∃s',toN 0 (n:Int) f s=some s'∧I n s':=by
 unfold toN
 rw[if_pos (by constructor<;>omega)]
 simpa using forN_inv I f n step n 0 s (by omega) h0
theorem forE_inv{σ ρ:Type}(I:Nat→σ→Prop)(R:ρ→Prop)(f:Int→σ→Option (Ex σ ρ))(n:Nat)(step: ∀i s,i<n→I i s→(∃s',f (i:Int) s=some (.n s')∧I (i+1) s')∨ ∃v,f (i:Int) s=some (.r v)∧R v):
  ∀(m i:Nat) (s:σ),i+m=n→I i s→(∃s',forE m (i:Int) f s=some (.n s')∧I n s')∨ ∃v,forE m (i:Int) f s=some (.r v)∧R v:=by
 intro m
 induction m with
 |zero=>intro i s h hI;exact .inl ⟨s,rfl,by rw[←h];simpa using hI⟩
 |succ m ih=>
  intro i s h hI
  rcases step i s (by omega) hI with ⟨s1,h1,h2⟩|⟨v,h1,h2⟩
  ·rw[forE,h1]
   exact ih (i+1) s1 (by omega) h2
  ·rw[forE,h1]
   exact .inr ⟨v,rfl,h2⟩
theorem toE_inv{σ ρ:Type}(I:Nat→σ→Prop)(R:ρ→Prop)(f:Int→σ→Option (Ex σ ρ))(n:Nat)(hn:n≤4294967296){s:σ}(h0:I 0 s)(step: ∀i s,i<n→I i s→(∃s',f (i:Int) s=some (.n s')∧I (i+1) s')∨ ∃v,f (i:Int) s=some (.r v)∧R v):
  (∃s',toE 0 (n:Int) f s=some (.n s')∧I n s')∨ ∃v,toE 0 (n:Int) f s=some (.r v)∧R v:=by
 unfold toE
 rw[if_pos (by constructor<;>omega)]
 simpa using forE_inv I R f n step n 0 s (by omega) h0
theorem zj{σ ρ:Type}(I:σ→Prop)(B:σ→Prop)(R:ρ→Prop)(m:σ→Nat)(f:σ→Option (Ex σ ρ))
  (step: ∀s,I s→(∃s',f s=some (.n s')∧I s'∧m s'<m s)∨(∃s',f s=some (.b s')∧B s')∨ ∃v,f s=some (.r v)∧R v):
  ∀(fuel:Nat) (s:σ),I s→m s<fuel→(∃s',loopE fuel f s=some (.n s')∧B s')∨ ∃v,loopE fuel f s=some (.r v)∧R v:=by
 intro fuel
 induction fuel with
 |zero=>intro s _ h;omega
 |succ n ih=>
  intro s hI hm
  rcases step s hI with ⟨s1,h1,h2,h3⟩|⟨s1,h1,h2⟩|⟨v,h1,h2⟩
  ·rw[loopE,h1];exact ih s1 h2 (by omega)
  ·rw[loopE,h1];exact .inl ⟨s1,rfl,h2⟩
  ·rw[loopE,h1];exact .inr ⟨v,rfl,h2⟩
theorem wrap1{n:Nat}(h:n≤4294967296):IntKind.i64.wrap ((n:Int)+1)=((n+1:Nat):Int):=by
 rw[yP (by omega) (by omega)];omega
theorem getAt{α:Type}{xs:List α}{i:Nat}(h:i<xs.length): ∃x,xs[i]?=some x:=⟨xs[i],by simp[h]⟩
end Go.Proofs.Ytoojnagdenoknaa.PL
set_option linter.unusedVariables false
set_option linter.unusedSimpArgs false
namespace Go.Proofs.Ytoojnagdenoknaa.PL
open Go
def isFnd(bs:List Bl)(l:ByteArray)(r:Int):Prop:=
 (∃k:Nat,r=k∧(∃b,bs[k]?=some b∧b.label=l)∧ ∀j<k,∀b,bs[j]?=some b→b.label≠l)∨(r= -1∧ ∀(j:Nat) b,bs[j]?=some b→b.label≠l)
theorem isFnd_same{bs:List Bl}{l:ByteArray}{r s:Int}(h:isFnd bs l r)(k:isFnd bs l s):r=s:=by
 rcases h with ⟨a,rfl,⟨b,h1,h2⟩,h3⟩|⟨rfl,h3⟩<;>rcases k with ⟨c,rfl,⟨d,k1,k2⟩,k3⟩|⟨rfl,k3⟩
 ·rcases Nat.lt_trichotomy a c with h|h|h
  ·exact absurd h2 (k3 a h b h1)
  ·rw[h]
  ·exact absurd k2 (h3 c h d k1)
 ·exact absurd h2 (k3 a b h1)
 ·exact absurd k2 (h3 c d k1)
 ·rfl
theorem isFnd_lt{bs:List Bl}{l:ByteArray}{r:Int}(h:isFnd bs l r): -1≤r∧r<(bs.length:Int):=by
 rcases h with ⟨a,rfl,⟨b,h1,h2⟩,h3⟩|⟨rfl,h3⟩
 ·have:=(List.getElem?_eq_some_iff.1 h1).1;omega
 ·omega
theorem find_ref{f:Fnc}(hn:f.blocks.length≤4294967296)(fuel:Nat)(l:ByteArray): ∃r,pz2f fuel f l=some r∧isFnd f.blocks l r:=by
 unfold pz2f
 refine Or.elim (toE_inv (fun i (_:Unit)=> ∀j<i,∀b,f.blocks[j]?=some b→b.label≠l) (fun r=>isFnd f.blocks l r) (fun i _=>pz2e fuel f l i) f.blocks.length hn (s:=()) (by intro j h;omega) ?_) ?_ ?_
 rotate_left
 ·rintro⟨s,h1,h2⟩;rw[h1];exact⟨-1,rfl,.inr ⟨rfl,fun j b h=>h2 j (List.getElem?_eq_some_iff.1 h).1 b h⟩⟩
 ·rintro⟨v,h1,h2⟩;rw[h1];exact⟨v,rfl,h2⟩
 ·intro i s hi hI
  obtain⟨b,hb⟩:=getAt hi
  by_cases c:b.label=l
  ·exact .inr ⟨i,by simp[pz2e,zS hb,c],.inl ⟨i,rfl,⟨b,hb,c⟩,hI⟩⟩
  ·refine .inl ⟨(),by simp[pz2e,zS hb,c],?_⟩
   intro j hj b' hb'
   by_cases e:j=i
   ·subst e;rw[hb] at hb';cases hb';exact c
   ·exact hI j (by omega) b' hb'
theorem find_ir{f:Fnc}(hn:f.blocks.length≤4294967){fuel:Nat}(hf:f.blocks.length<fuel)(l:ByteArray): ∃r,pza fuel f l=some r∧isFnd f.blocks l r:=by
 unfold pza pz9
 refine Or.elim (zj (fun x:Int=> ∃i:Nat,x=i∧i≤f.blocks.length∧ ∀j<i,∀b,f.blocks[j]?=some b→b.label≠l) (fun _=> ∀(j:Nat) b,f.blocks[j]?=some b→b.label≠l) (fun r=>isFnd f.blocks l r) (fun x=>f.blocks.length-x.toNat) (fun s=>pz8 fuel f.blocks l s) ?_ fuel 0 ⟨0,rfl,by omega,by intro j h;omega⟩ (by simpa using hf)) ?_ ?_
 rotate_left
 ·rintro⟨s,h1,h2⟩;rw[h1];exact⟨-1,rfl,.inr ⟨rfl,h2⟩⟩
 ·rintro⟨v,h1,h2⟩;rw[h1];exact⟨v,rfl,h2⟩
 ·rintro x ⟨i,rfl,hi,hI⟩
  by_cases hlt:i<f.blocks.length
  ·obtain⟨b,hb⟩:=getAt hlt
   have hd:((i:Int)<(f.blocks.length:Int)):=by omega
   by_cases c:b.label=l
   ·exact .inr (.inr ⟨i,by simp[pz8,pz7,zS hb,c,hlt],.inl ⟨i,rfl,⟨b,hb,c⟩,hI⟩⟩)
   ·refine .inl ⟨((i+1:Nat):Int),by rw[←wrap1 (by omega)];simp[pz8,pz7,zS hb,c,hlt],⟨i+1,rfl,by omega,?_⟩,by omega⟩
    intro j hj b' hb'
    by_cases e:j=i
    ·subst e;rw[hb] at hb';cases hb';exact c
    ·exact hI j (by omega) b' hb'
  ·refine .inr (.inl ⟨(i:Int),by simp[pz8,hlt],?_⟩)
   intro j b hb
   have:=(List.getElem?_eq_some_iff.1 hb).1
   exact hI j (by omega) b hb
theorem in_sl{l:List Int}(hn:l.length≤4294967){fuel:Nat}(hf:l.length<fuel)(v:Int):pzd fuel l v=some (decide (v∈l)):=by
 unfold pzd pzc
 refine Or.elim (zj (fun x:Int=> ∃i:Nat,x=i∧i≤l.length∧ ∀j<i,l[j]?≠some v) (fun _=>v∉l) (fun r:Int=>0≤r∧v∈l) (fun x=>l.length-x.toNat) (fun s=>pzb fuel l v s) ?_ fuel 0 ⟨0,rfl,by omega,by intro j h;omega⟩ (by simpa using hf)) ?_ ?_
 rotate_left
 ·rintro⟨s,h1,h2⟩;rw[h1];simp[bindE,h2]
 ·rintro⟨w,h1,h2⟩;rw[h1];simp[bindE,h2.1,h2.2]
 ·rintro x ⟨i,rfl,hi,hI⟩
  by_cases hlt:i<l.length
  ·obtain⟨b,hb⟩:=getAt hlt
   by_cases c:v=b
   ·exact .inr (.inr ⟨i,by simp[pzb,zS hb,c,hlt],by omega,by rw[c];exact List.mem_of_getElem? hb⟩)
   ·refine .inl ⟨((i+1:Nat):Int),by rw[←wrap1 (by omega)];simp[pzb,zS hb,c,hlt],⟨i+1,rfl,by omega,?_⟩,by omega⟩
    intro j hj hb'
    by_cases e:j=i
    ·subst e;rw[hb] at hb';cases hb';exact c rfl
    ·exact hI j (by omega) hb'
  ·refine .inr (.inl ⟨(i:Int),by simp[pzb,hlt],?_⟩)
   intro h
   obtain⟨j,hj⟩:=List.getElem?_of_mem h
   have:=(List.getElem?_eq_some_iff.1 hj).1
   exact hI j (by omega) hj
theorem wrapu{x:Nat}(h:x<18446744073709551616):IntKind.u64.wrap (x:Int)=(x:Int):=by
 simp[IntKind.wrap,IntKind.bits,IntKind.signed,IntKind.min,IntKind.max]
 omega
theorem ofIntNat{a:Nat}(ha:a<18446744073709551616):(BitVec.ofInt 64 (a:Int)).toNat=a:=by
 rw[BitVec.toNat_ofInt];omega
theorem band_nat{a b:Nat}(ha:a<18446744073709551616)(hb:b<18446744073709551616):band .u64 (a:Int) (b:Int)=((a&&&b:Nat):Int):=by
 show IntKind.u64.wrap (((BitVec.ofInt 64 (a:Int)&&&BitVec.ofInt 64 (b:Int)).toNat:Nat):Int)=_
 rw[BitVec.toNat_and,ofIntNat ha,ofIntNat hb,wrapu (Nat.and_lt_two_pow (n:=64) a hb)]
theorem bor_nat{a b:Nat}(ha:a<18446744073709551616)(hb:b<18446744073709551616):bor .u64 (a:Int) (b:Int)=((a|||b:Nat):Int):=by
 show IntKind.u64.wrap (((BitVec.ofInt 64 (a:Int)|||BitVec.ofInt 64 (b:Int)).toNat:Nat):Int)=_
 rw[BitVec.toNat_or,ofIntNat ha,ofIntNat hb,wrapu (Nat.or_lt_two_pow (n:=64) ha hb)]
theorem shr_nat{a k:Nat}(hk:k<64):shr .u64 (a:Int) (k:Int)=some ((a/2^k:Nat):Int):=by
 unfold shr
 rw[if_neg (by omega)]
 have:min ((k:Int).toNat) IntKind.u64.bits=k:=by show min ((k:Int).toNat) 64=k;omega
 rw[this,Int.fdiv_eq_ediv_of_nonneg _ (by exact Int.le_of_lt (Int.pow_pos (by decide)))]
 congr 1
theorem shl_one{k:Nat}(hk:k<64):shl .u64 1 (k:Int)=some ((2^k:Nat):Int):=by
 unfold shl
 rw[if_neg (by omega)]
 have:min ((k:Int).toNat) IntKind.u64.bits=k:=by show min ((k:Int).toNat) 64=k;omega
 have h2:2^k<18446744073709551616:=Nat.pow_lt_pow_right (n:=64) (by decide) hk
 rw[this]
 congr 1
 rw[←wrapu h2]
 simp
theorem tdiv_nat(i:Nat):Int.tdiv (i:Int) 64=((i/64:Nat):Int):=by
 rw[Int.tdiv_eq_ediv_of_nonneg (by omega)];omega
theorem tmod_nat(i:Nat):Int.tmod (i:Int) 64=((i%64:Nat):Int):=by
 rw[Int.tmod_eq_emod_of_nonneg (by omega)];omega
def bV(s:zC)(n:Nat):Prop:=s.n=(n:Int)∧s.words.length=(n+63)/64∧ ∀w∈s.words,0≤w∧w<18446744073709551616
def bH(s:zC)(j:Nat):Bool:=match s.words[j/64]? with|some w=>w.toNat.testBit (j%64)|none=>false
theorem has_ok{s:zC}{n:Nat}(hV:bV s n)(hn:n≤4294967296)(fuel:Nat)(i:Int):pzk fuel s i=some (decide (0≤i∧i<(n:Int))&&bH s i.toNat):=by
 unfold pzk pzj
 rw[hV.1]
 by_cases h:0≤i∧i<(n:Int)
 ·obtain⟨k,rfl⟩:=Int.eq_ofNat_of_zero_le h.1
  have hk:k<n:=by omega
  obtain⟨w,hw⟩:=getAt (xs:=s.words) (i:=k/64) (by rw[hV.2.1];omega)
  obtain⟨hw0,hw1⟩:=hV.2.2 w (List.mem_of_getElem? hw)
  obtain⟨a,rfl⟩:=Int.eq_ofNat_of_zero_le hw0
  have ha:a<18446744073709551616:=by omega
  have hd:a/2^(k%64)<18446744073709551616:=Nat.lt_of_le_of_lt (Nat.div_le_self _ _) ha
  have hw':idx s.words (IntKind.wrap .i64 (Int.tdiv (k:Int) 64))=some (a:Int):=by
   rw[tdiv_nat,yP (by omega) (by omega)];exact zS hw
  have hb:=band_nat hd (b:=1) (by decide)
  have hr:decide (band .u64 ((a/2^(k%64):Nat):Int) 1=1)=a.testBit (k%64):=by
   rw[show(1:Int)=((1:Nat):Int) from rfl,hb,Nat.and_one_is_mod,Nat.testBit_eq_decide_div_mod_eq]
   congr 1
   simp only[eq_iff_iff]
   omega
  have hs:=shr_nat (a:=a) (k:=k%64) (by omega)
  rw[←tmod_nat] at hs
  simp only[Option.bind_some,h.1,h.2,decide_true,Bool.and_true,if_true,Bool.true_and,and_self]
  rw[hw']
  simp only[Option.bind_some]
  rw[hs]
  simp only[Option.bind_some,hr]
  simp[bH,hw]
 ·have:(decide (0≤i)&&decide (i<(n:Int)))=false:=by
   simp;omega
  simp only[this,Option.bind_some,h,decide_false,Bool.false_and]
  simp
theorem add_ok{s:zC}{n:Nat}(hV:bV s n)(hn:n≤4294967296)(fuel:Nat)(i:Int):
  (pzl fuel s i=some (false,s)∧ ∀k:Nat,i=k→k<n→bH s k=true)∨
  ∃(k:Nat) (s':zC),i=k∧k<n∧bH s k=false∧pzl fuel s i=some (true,s')∧bV s' n∧ ∀j,bH s' j=(bH s j||decide (j=k)):=by
 unfold pzl
 rw[has_ok hV hn]
 have hin:pzj fuel s i=some (decide (0≤i∧i<(n:Int))):=by unfold pzj;rw[hV.1];simp
 rw[hin]
 by_cases h:0≤i∧i<(n:Int)
 ·obtain⟨k,rfl⟩:=Int.eq_ofNat_of_zero_le h.1
  have hk:k<n:=by omega
  obtain⟨w,hw⟩:=getAt (xs:=s.words) (i:=k/64) (by rw[hV.2.1];omega)
  obtain⟨hw0,hw1⟩:=hV.2.2 w (List.mem_of_getElem? hw)
  obtain⟨a,rfl⟩:=Int.eq_ofNat_of_zero_le hw0
  have ha:a<18446744073709551616:=by omega
  have hw':idx s.words (IntKind.wrap .i64 (Int.tdiv (k:Int) 64))=some (a:Int):=by
   rw[tdiv_nat,yP (by omega) (by omega)];exact zS hw
  by_cases hb:bH s k=true
  ·left
   refine⟨by simp[h,hb],?_⟩
   intro k' e _;have:k=k':=by omega
   subst this;exact hb
  ·right
   have hb':bH s k=false:=by simpa using hb
   have h2:2^(k%64)<18446744073709551616:=Nat.pow_lt_pow_right (n:=64) (by decide) (by omega)
   have hs:=shl_one (k:=k%64) (by omega)
   rw[←tmod_nat] at hs
   have hset:setI s.words (IntKind.wrap .i64 (Int.tdiv (k:Int) 64)) (bor .u64 (a:Int) ((2^(k%64):Nat):Int))=some (s.words.set (k/64) ((a|||2^(k%64):Nat):Int)):=by
    rw[tdiv_nat,yP (by omega) (by omega),bor_nat ha h2];exact yJ (by rw[hV.2.1];omega)
   refine⟨k,⟨s.n,s.words.set (k/64) ((a|||2^(k%64):Nat):Int)⟩,rfl,hk,hb',?_,⟨hV.1,by simp[hV.2.1],?_⟩,?_⟩
   ·have hkn:((k:Int)<(n:Int)):=h.2
    have c0:(decide (0≤(k:Int)∧(k:Int)<(n:Int)))=true:=by simpa using h
    have c1:(true&&bH s ((k:Int)).toNat)=false:=by simpa using hb'
    simp only[Option.bind_some,c0,c1,Bool.not_true,Bool.false_eq_true,if_false]
    rw[hw']
    simp only[Option.bind_some]
    rw[hs]
    simp only[Option.bind_some]
    rw[hset]
    rfl
   ·intro w hwm
    rcases List.mem_or_eq_of_mem_set hwm with hwm|rfl
    ·exact hV.2.2 w hwm
    ·have:=Nat.or_lt_two_pow (n:=64) ha h2
     omega
   ·intro j
    unfold bH
    by_cases e:j/64=k/64
    ·have hl:k/64<s.words.length:=by rw[hV.2.1];omega
     simp only[e,List.getElem?_set_self hl,hw,Int.toNat_natCast,Nat.testBit_or,Nat.testBit_two_pow]
     congr 1
     simp only[decide_eq_decide]
     omega
    ·have:j≠k:=by intro c;subst c;exact e rfl
     rw[List.getElem?_set_ne (by omega)]
     simp[this]
 ·left
  refine⟨by simp[h],?_⟩
  intro k e hk;omega
theorem new_ok{n:Nat}(hn:n≤4294967296)(fuel:Nat): ∃s,pzi fuel (n:Int)=some s∧bV s n∧ ∀j,bH s j=false:=by
 have h0:(if 0>(n:Int) then 0 else(n:Int))=n:=by rw[if_neg (by omega)]
 refine⟨⟨n,List.replicate ((n+63)/64) 0⟩,?_,⟨rfl,by simp,?_⟩,?_⟩
 ·unfold pzi
  rw[h0,yP (x:=(n:Int)+64) (by omega) (by omega),yP (x:=(n:Int)+64-1) (by omega) (by omega),show(n:Int)+64-1=((n+63:Nat):Int) by omega,tdiv_nat,yP (by omega) (by omega),mk_nat (by omega)]
  rfl
 ·intro w hw
  have:=(List.mem_replicate.1 hw).2
  subst this;omega
 ·intro j
  unfold bH
  simp only[List.getElem?_replicate]
  split
  ·rename_i h
   split at h
   ·cases h;simp
   ·cases h
  ·rfl
end Go.Proofs.Ytoojnagdenoknaa.PL
set_option linter.unusedVariables false
set_option linter.unusedSimpArgs false
namespace Go.Proofs.Ytoojnagdenoknaa.PL
open Go
def fOk(f:Fnc):Prop:=f.blocks.length≤1048576∧ ∀b∈f.blocks,b.code.length≤1048576∧ ∀i∈b.code,i.labels.length≤1048576
def fnd(f:Fnc)(l:ByteArray):Int:=(pz2f 0 f l).getD (-1)
theorem fnd_is{f:Fnc}(hn:fOk f)(l:ByteArray):isFnd f.blocks l (fnd f l):=by
 obtain⟨r,h1,h2⟩:=find_ref (f:=f) (by have:=hn.1;omega) 0 l
 unfold fnd;rw[h1];exact h2
theorem fnd_ir{f:Fnc}(hn:fOk f){fuel:Nat}(hf:1048576<fuel)(l:ByteArray):pza fuel f l=some (fnd f l):=by
 obtain⟨r,h1,h2⟩:=find_ir (f:=f) (by have:=hn.1;omega) (fuel:=fuel) (by have:=hn.1;omega) l
 rw[h1,isFnd_same h2 (fnd_is hn l)]
theorem fnd_lt{f:Fnc}(hn:fOk f)(l:ByteArray): -1≤fnd f l∧fnd f l<(f.blocks.length:Int):=isFnd_lt (fnd_is hn l)
def addT(acc:List Int)(r:Int):List Int:=if 0≤r∧r∉acc then acc++[r] else acc
theorem addT_len(acc:List Int)(r:Int):(addT acc r).length≤acc.length+1:=by
 unfold addT;split<;>simp
def tgl(f:Fnc)(ls:List ByteArray):List Int:=ls.foldl (fun a l=>addT a (fnd f l)) []
theorem tgl_next(f:Fnc){ls:List ByteArray}{i:Nat}{l:ByteArray}(h:ls[i]?=some l):tgl f (ls.take (i+1))=addT (tgl f (ls.take i)) (fnd f l):=by
 unfold tgl
 rw[List.take_add_one,h]
 simp
theorem foldT_len(f:Fnc)(ls:List ByteArray): ∀acc:List Int,(ls.foldl (fun a l=>addT a (fnd f l)) acc).length≤acc.length+ls.length:=by
 induction ls with
 |nil=>intro acc;simp
 |cons l ls ih=>
  intro acc
  have h1:=ih (addT acc (fnd f l))
  have h2:=addT_len acc (fnd f l)
  simp only[List.foldl_cons,List.length_cons]
  omega
theorem tgl_len(f:Fnc)(ls:List ByteArray):(tgl f ls).length≤ls.length:=by simpa [tgl] using foldT_len f ls []
theorem foldT_in{f:Fnc}(hn:fOk f)(ls:List ByteArray): ∀acc:List Int,(∀r∈acc,0≤r∧r<(f.blocks.length:Int))→ ∀r∈ls.foldl (fun a l=>addT a (fnd f l)) acc,0≤r∧r<(f.blocks.length:Int):=by
 induction ls with
 |nil=>intro acc h;exact h
 |cons l ls ih=>
  intro acc h
  refine ih _ ?_
  intro r hr
  change r∈addT acc (fnd f l) at hr
  unfold addT at hr
  split at hr
  ·rename_i c
   rcases List.mem_append.1 hr with hr|hr
   ·exact h r hr
   ·have:=List.mem_singleton.1 hr
    subst this
    exact⟨c.1,(fnd_lt hn l).2⟩
  ·exact h r hr
theorem tgl_in{f:Fnc}(hn:fOk f)(ls:List ByteArray): ∀r∈tgl f ls,0≤r∧r<(f.blocks.length:Int):=foldT_in hn ls [] (by simp)
def lastB(b:Bl):Option Ins:=match b.code[b.code.length-1]? with|some i=>if 20≤i.op∧i.op≤23 then some i else none|none=>none
def tg(f:Fnc)(b:Bl):List Int:=match lastB b with|some i=>tgl f i.labels|none=>[]
theorem lastB_len{f:Fnc}(hn:fOk f){b:Bl}(hb:b∈f.blocks){i:Ins}(h:lastB b=some i):i.labels.length≤1048576:=by
 unfold lastB at h
 split at h
 ·rename_i j hj
  split at h
  ·cases h;exact(hn.2 b hb).2 _ (List.mem_of_getElem? hj)
  ·cases h
 ·cases h
theorem tg_in{f:Fnc}(hn:fOk f)(b:Bl): ∀r∈tg f b,0≤r∧r<(f.blocks.length:Int):=by
 unfold tg
 split
 ·exact tgl_in hn _
 ·simp
theorem tg_len{f:Fnc}(hn:fOk f){b:Bl}(hb:b∈f.blocks):(tg f b).length≤1048576:=by
 unfold tg
 split
 ·rename_i i h
  exact Nat.le_trans (tgl_len _ _) (lastB_len hn hb h)
 ·simp
theorem last_idx{b:Bl}(h:b.code.length≤1048576)(h0:b.code.length≠0): ∃i,b.code[b.code.length-1]?=some i∧idx b.code (IntKind.wrap .i64 ((b.code.length:Int)-1))=some i:=by
 obtain⟨i,hi⟩:=getAt (xs:=b.code) (i:=b.code.length-1) (by omega)
 refine⟨i,hi,?_⟩
 rw[yP (by omega) (by omega),show(b.code.length:Int)-1=((b.code.length-1:Nat):Int) by omega]
 exact zS hi
def TT(f:Fnc)(j:Nat):List Int:=match f.blocks[j]? with|some b=>tg f b|none=>[]
def PP(f:Fnc)(x j:Nat):List Int:=((List.range x).filter (fun k=>decide ((j:Int)∈TT f k))).map (fun(k:Nat)=>(k:Int))
theorem PP_len(f:Fnc)(x j:Nat):(PP f x j).length≤x:=by
 unfold PP
 rw[List.length_map]
 exact Nat.le_trans (List.length_filter_le _ _) (by simp)
theorem PP_next(f:Fnc)(x j:Nat):PP f (x+1) j=PP f x j++if(j:Int)∈TT f x then [(x:Int)] else []:=by
 unfold PP
 rw[List.range_succ,List.filter_append,List.map_append]
 congr 1
 by_cases c:(j:Int)∈TT f x<;>simp[c]
theorem PP_mem{f:Fnc}{x j:Nat}{k:Int}:k∈PP f x j↔ ∃i:Nat,k=i∧i<x∧(j:Int)∈TT f i:=by
 unfold PP
 constructor
 ·intro h
  obtain⟨i,hi,rfl⟩:=List.mem_map.1 h
  obtain⟨h1,h2⟩:=List.mem_filter.1 hi
  exact⟨i,rfl,List.mem_range.1 h1,of_decide_eq_true h2⟩
 ·rintro⟨i,rfl,h1,h2⟩
  exact List.mem_map.2 ⟨i,List.mem_filter.2 ⟨List.mem_range.2 h1,decide_eq_true h2⟩,rfl⟩
structure NI (f:Fnc) (x:Nat) (acc:List Int) (c9 c10:List (List Int)):Prop where
 l9:c9.length=f.blocks.length
 l10:c10.length=f.blocks.length
 g9: ∀j,j<f.blocks.length→c9[j]?=some (if j=x then acc else if j<x then TT f j else [])
 g10: ∀j:Nat,j<f.blocks.length→c10[j]?=some (PP f x j++if(j:Int)∈acc then [(x:Int)] else [])
theorem new_b2{f:Fnc}(hn:fOk f){fuel:Nat}(hf:1048577<fuel){x:Nat}(hx:x<f.blocks.length){i:Ins}(hi:i.labels.length≤1048576){c9 c10:List (List Int)}(h0:NI f x [] c9 c10):
  ∃d9 d10,NI f x (tgl f i.labels) d9 d10∧ ∃z,loopE fuel (fun s=>pze fuel f (x:Int) i s.1 s.2.1 s.2.2) (c9,c10,0)=some (.n (d9,d10,z)):=by
 have hn1:=hn.1
 refine Or.elim (zj (fun s:List (List Int)×List (List Int)×Int=> ∃y:Nat,s.2.2=y∧y≤i.labels.length∧NI f x (tgl f (i.labels.take y)) s.1 s.2.1) (fun s=>NI f x (tgl f i.labels) s.1 s.2.1) (fun _:List (List Int)×List (List Int)=>False) (fun s=>i.labels.length-s.2.2.toNat)
  (fun s=>pze fuel f (x:Int) i s.1 s.2.1 s.2.2) ?_ fuel (c9,c10,0) ⟨0,rfl,by omega,h0⟩ (by simp;omega)) ?_ ?_
 rotate_left
 ·rintro⟨⟨d9,d10,z⟩,h1,h2⟩
  exact⟨d9,d10,h2,z,h1⟩
 ·rintro⟨v,_,h⟩;exact h.elim
 ·rintro⟨a9,a10,q⟩ ⟨y,hq,hy,hI⟩
  simp only at hq hI
  subst hq
  show(∃s',pze fuel f (x:Int) i a9 a10 (y:Int)=some (.n s')∧_)∨(∃s',pze fuel f (x:Int) i a9 a10 (y:Int)=some (.b s')∧_)∨_
  unfold pze
  by_cases hlt:y<i.labels.length
  ·left
   obtain⟨l,hl⟩:=getAt hlt
   have hlen:=tgl_len f (i.labels.take y)
   simp at hlen
   have h9:=hI.g9 x hx
   simp only[if_true] at h9
   have hlt':(y:Int)<(i.labels.length:Int):=by omega
   have hc:=in_sl (l:=tgl f (i.labels.take y)) (by omega) (fuel:=fuel) (by omega) (fnd f l)
   simp only[hlt',decide_true,if_true,zS hl,Option.bind_some,fnd_ir hn (by omega:1048576<fuel),zS h9,hc]
   by_cases c:0≤fnd f l
   ·by_cases d:fnd f l∈tgl f (i.labels.take y)
    ·simp only[c,d,decide_true,if_true,Bool.not_true,Bool.false_eq_true,if_false,Option.bind_some]
     refine⟨_,rfl,⟨y+1,wrap1 (by omega),by omega,?_⟩,?_⟩
     ·rw[tgl_next f hl,addT,if_neg (fun e=>e.2 d)];exact hI
     ·show i.labels.length-(IntKind.i64.wrap ((y:Int)+1)).toNat<i.labels.length-((y:Int)).toNat
      rw[wrap1 (by omega)];omega
    ·obtain⟨k,hk⟩:=Int.eq_ofNat_of_zero_le c
     have hkn:k<f.blocks.length:=by have:=(fnd_lt hn l).2;omega
     have h10:=hI.g10 k hkn
     rw[hk] at d
     have hpl:=PP_len f x k
     simp only[d,if_false,List.append_nil] at h10
     have ha1:app (tgl f (i.labels.take y)) [(k:Int)]=some (tgl f (i.labels.take y)++[(k:Int)]):=kV (by simp;omega)
     have ha2:app (PP f x k) [(x:Int)]=some (PP f x k++[(x:Int)]):=kV (by simp;omega)
     have hs1:setI a9 (x:Int) (tgl f (i.labels.take y)++[(k:Int)])=some (a9.set x (tgl f (i.labels.take y)++[(k:Int)])):=yJ (by rw[hI.l9];exact hx)
     have hs2:setI a10 (k:Int) (PP f x k++[(x:Int)])=some (a10.set k (PP f x k++[(x:Int)])):=yJ (by rw[hI.l10];exact hkn)
     have hk0:(0:Int)≤(k:Int):=by omega
     simp only[hk,hk0,d,decide_true,decide_false,if_true,Bool.not_false,Option.bind_some,ha1,hs1,zS h10,ha2,hs2]
     refine⟨_,rfl,⟨y+1,wrap1 (by omega),by omega,?_⟩,?_⟩
     ·rw[tgl_next f hl,addT,if_pos ⟨c,by rw[hk];exact d⟩,hk]
      refine⟨by simp[hI.l9],by simp[hI.l10],?_,?_⟩
      ·intro j hj
       by_cases e:j=x
       ·subst e;rw[List.getElem?_set_self (by rw[hI.l9];exact hx)];simp
       ·rw[List.getElem?_set_ne (by omega),hI.g9 j hj];simp[e]
      ·intro j hj
       by_cases e:j=k
       ·subst e;rw[List.getElem?_set_self (by rw[hI.l10];exact hj)];simp
       ·rw[List.getElem?_set_ne (by omega),hI.g10 j hj]
        have: ¬((j:Int)=(k:Int)):=by omega
        simp[this]
     ·show i.labels.length-(IntKind.i64.wrap ((y:Int)+1)).toNat<i.labels.length-((y:Int)).toNat
      rw[wrap1 (by omega)];omega
   ·simp only[c,decide_false,if_true,Bool.false_eq_true,if_false,Option.bind_some]
    refine⟨_,rfl,⟨y+1,wrap1 (by omega),by omega,?_⟩,?_⟩
    ·rw[tgl_next f hl,addT,if_neg (fun e=>c e.1)];exact hI
    ·show i.labels.length-(IntKind.i64.wrap ((y:Int)+1)).toNat<i.labels.length-((y:Int)).toNat
     rw[wrap1 (by omega)];omega
  ·right;left
   have hlt': ¬((y:Int)<(i.labels.length:Int)):=by omega
   simp only[hlt',decide_false,Bool.false_eq_true,if_false]
   refine⟨_,rfl,?_⟩
   have:y=i.labels.length:=by omega
   subst this
   simpa using hI
theorem NI_next{f:Fnc}{x:Nat}{d9 d10:List (List Int)}(h:NI f x (TT f x) d9 d10):NI f (x+1) [] d9 d10:=by
 refine⟨h.l9,h.l10,?_,?_⟩
 ·intro j hj
  rw[h.g9 j hj]
  by_cases e:j=x
  ·subst e;simp
  ·by_cases c:j<x
   ·have:j≠x+1:=by omega
    simp[e,c,this,show j<x+1 by omega]
   ·have: ¬j<x+1:=by omega
    simp[e,c,this]
 ·intro j hj
  rw[h.g10 j hj,PP_next]
  simp
theorem last_ok{f:Fnc}(hn:fOk f){b:Bl}(hb:b∈f.blocks)(fuel:Nat):(∃i,lastB b=some i∧pz6 fuel b=some (i,true))∨(lastB b=none∧ ∃z,pz6 fuel b=some (z,false)):=by
 have hc:=(hn.2 b hb).1
 unfold pz6 pz5
 by_cases h0:b.code.length=0
 ·right
  have:lastB b=none:=by
   unfold lastB
   have:b.code=[]:=List.eq_nil_of_length_eq_zero h0
   simp[this]
  exact⟨this,_,by simp[h0];rfl⟩
 ·obtain⟨x,hx,hx'⟩:=last_idx hc h0
  have hp: ¬((b.code.length:Int)=0):=by omega
  simp only[hp,decide_false,Bool.false_eq_true,if_false,hx',Option.bind_some]
  unfold lastB
  rw[hx]
  by_cases c:20≤x.op∧x.op≤23
  ·left;exact⟨x,by simp[c],by simp[c]⟩
  ·right;exact⟨by simp[c],x,by simp only[Option.some.injEq,Prod.mk.injEq,true_and,Bool.and_eq_false_iff,decide_eq_false_iff_not];omega⟩
theorem new_f{f:Fnc}(hn:fOk f){fuel:Nat}(hf:1048577<fuel): ∃g,pzg fuel f=some g∧g.succ.length=f.blocks.length∧g.pred.length=f.blocks.length∧
  (∀j,j<f.blocks.length→g.succ[j]?=some (TT f j))∧ ∀j:Nat,j<f.blocks.length→g.pred[j]?=some (PP f f.blocks.length j):=by
 have hn1:=hn.1
 unfold pzg
 rw[mk_nat (by omega)]
 simp only[Option.bind_some]
 refine Or.elim (zj (fun s:Int×List (List Int)×List (List Int)=> ∃x:Nat,s.1=x∧x≤f.blocks.length∧NI f x [] s.2.1 s.2.2) (fun s=>NI f f.blocks.length [] s.2.1 s.2.2) (fun _:zI=>False) (fun s=>f.blocks.length-s.1.toNat)
  (fun s=>pzf fuel f s.1 s.2.1 s.2.2) ?_ fuel (0,List.replicate f.blocks.length [],List.replicate f.blocks.length []) ⟨0,rfl,by omega,?_⟩ (by simp;omega)) ?_ ?_
 rotate_left
 ·refine⟨by simp,by simp,?_,?_⟩
  ·intro j hj;simp[List.getElem?_replicate,hj]
  ·intro j hj;simp[List.getElem?_replicate,hj,PP]
 ·rintro⟨⟨z,d9,d10⟩,h1,h2⟩
  rw[h1]
  refine⟨⟨d9,d10⟩,rfl,h2.l9,h2.l10,?_,?_⟩
  ·intro j hj
   have:=h2.g9 j hj
   simpa [hj,show j≠f.blocks.length by omega] using this
  ·intro j hj
   simpa using h2.g10 j hj
 ·rintro⟨v,_,h⟩;exact h.elim
 ·rintro⟨q,a9,a10⟩ ⟨x,hq,hx,hI⟩
  simp only at hq hI
  subst hq
  show(∃s',pzf fuel f (x:Int) a9 a10=some (.n s')∧_)∨(∃s',pzf fuel f (x:Int) a9 a10=some (.b s')∧_)∨_
  unfold pzf
  by_cases hlt:x<f.blocks.length
  ·left
   obtain⟨b,hb⟩:=getAt hlt
   have hm:=List.mem_of_getElem? hb
   have hlt':(x:Int)<(f.blocks.length:Int):=by omega
   have hT:TT f x=tg f b:=by unfold TT;rw[hb]
   have done: ∀d9 d10,NI f x (TT f x) d9 d10→((fun s:Int×List (List Int)×List (List Int)=> ∃x:Nat,s.1=x∧x≤f.blocks.length∧NI f x [] s.2.1 s.2.2) (IntKind.i64.wrap ((x:Int)+1),d9,d10)∧f.blocks.length-(IntKind.i64.wrap ((x:Int)+1)).toNat<f.blocks.length-((x:Int)).toNat):=by
    intro d9 d10 h
    rw[wrap1 (by omega)]
    exact⟨⟨x+1,rfl,by omega,NI_next h⟩,by omega⟩
   simp only[hlt',decide_true,if_true,zS hb,Option.bind_some]
   rcases last_ok hn hm fuel with ⟨i,h1,h2⟩|⟨h1,z,h2⟩
   ·obtain⟨d9,d10,h3,z,h4⟩:=new_b2 hn hf hlt (lastB_len hn hm h1) hI
    simp only[h2,Option.bind_some,Bool.not_true,Bool.false_eq_true,if_false,h4,bindE]
    have ht:TT f x=tgl f i.labels:=by rw[hT];unfold tg;rw[h1]
    rw[←ht] at h3
    exact⟨_,rfl,(done d9 d10 h3).1,(done d9 d10 h3).2⟩
   ·simp only[h2,Option.bind_some,Bool.not_false,if_true]
    have ht:TT f x=[]:=by rw[hT];unfold tg;rw[h1]
    have h3:=hI
    rw[←ht] at h3
    exact⟨_,rfl,(done a9 a10 h3).1,(done a9 a10 h3).2⟩
  ·right;left
   have hlt': ¬((x:Int)<(f.blocks.length:Int)):=by omega
   simp only[hlt',decide_false,Bool.false_eq_true,if_false]
   refine⟨_,rfl,?_⟩
   have:x=f.blocks.length:=by omega
   subst this
   exact hI
end Go.Proofs.Ytoojnagdenoknaa.PL
set_option linter.unusedVariables false
set_option linter.unusedSimpArgs false
namespace Go.Proofs.Ytoojnagdenoknaa.PL
open Go
inductive Path (E:Nat→Nat→Prop) (ok:Nat→Prop):Nat→Nat→Prop
 |one {a:Nat}:ok a→Path E ok a a
 |step {a b c:Nat}:ok a→E a b→Path E ok b c→Path E ok a c
theorem Path.fst{E:Nat→Nat→Prop}{ok:Nat→Prop}{a b:Nat}(h:Path E ok a b):ok a:=by cases h<;>assumption
theorem Path.lst{E:Nat→Nat→Prop}{ok:Nat→Prop}{a b:Nat}(h:Path E ok a b):ok b:=by
 induction h with
 |one h=>exact h
 |step _ _ _ ih=>exact ih
theorem Path.snoc{E:Nat→Nat→Prop}{ok:Nat→Prop}{a b c:Nat}(h:Path E ok a b)(e:E b c)(k:ok c):Path E ok a c:=by
 induction h with
 |one h=>exact .step h e (.one k)
 |step h1 h2 _ ih=>exact .step h1 h2 (ih e)
theorem Path.closed{E:Nat→Nat→Prop}{ok:Nat→Prop}{C:Nat→Prop}(hC: ∀a b,C a→E a b→ok b→C b){a b:Nat}(h:Path E ok a b):C a→C b:=by
 induction h with
 |one h=>exact id
 |step h1 h2 h3 ih=>exact fun c=>ih (hC _ _ c h2 h3.fst)
theorem Path.back{E:Nat→Nat→Prop}{ok:Nat→Prop}{C:Nat→Prop}(hC: ∀a b,C b→E a b→ok a→C a){a b:Nat}(h:Path E ok a b):C b→C a:=by
 induction h with
 |one h=>exact id
 |step h1 h2 h3 ih=>exact fun c=>hC _ _ (ih c) h2 h1
section
variable {f:Fnc} (hn:fOk f) {fuel:Nat} (hf:1048577<fuel) {wo:Int}
def EE(f:Fnc)(a b:Nat):Prop:=(b:Int)∈TT f a
def okk(wo:Int)(a:Nat):Prop:=(a:Int)≠wo
theorem TT_lt(hn:fOk f){a b:Nat}(h:EE f a b):b<f.blocks.length:=by
 unfold EE TT at h
 split at h
 ·have:=(tg_in hn _ _ h).2;omega
 ·simp at h
theorem TT_fst{a b:Nat}(h:EE f a b):a<f.blocks.length:=by
 unfold EE TT at h
 split at h
 ·rename_i c;exact(List.getElem?_eq_some_iff.1 c).1
 ·simp at h
theorem TT_in(hn:fOk f){a:Nat}{r:Int}(h:r∈TT f a):0≤r∧r<(f.blocks.length:Int):=by
 unfold TT at h
 split at h
 ·exact tg_in hn _ _ h
 ·simp at h
theorem TT_len(hn:fOk f)(a:Nat):(TT f a).length≤1048576:=by
 unfold TT
 split
 ·rename_i c;exact tg_len hn (List.mem_of_getElem? c)
 ·simp
end
end Go.Proofs.Ytoojnagdenoknaa.PL
set_option linter.unusedVariables false
set_option linter.unusedSectionVars false
set_option linter.unusedSimpArgs false
namespace Go.Proofs.Ytoojnagdenoknaa.PL
open Go
theorem top_wrap{α:Type}(st:List α)(a:α)(h:st.length≤4294967):IntKind.wrap .i64 (((st++[a]).length:Int)-1)=(st.length:Int):=by
 rw[yP (by simp) (by simp;omega)];simp
theorem top_idx{α:Type}(st:List α)(a:α):idx (st++[a]) (st.length:Int)=some a:=zS (by simp)
theorem top_set{α:Type}(st:List α)(a b:α):setI (st++[a]) (st.length:Int) b=some (st++[b]):=by
 rw[yJ (by simp)]
 rw[List.set_append]
 simp
theorem top_cut{α:Type}(st:List α)(a:α):sli (st++[a]) 0 (st.length:Int)=some st:=by
 unfold sli
 rw[if_pos (by simp;omega)]
 simp
theorem reverse_ok{l:List Int}(hl:l.length≤1048576){fuel:Nat}(hf:1048577<fuel):pzq fuel l=some l.reverse:=by
 unfold pzq
 refine Or.elim (zj (fun q:List Int×Int×Int=> ∃i:Nat,q.2.1=i∧q.2.2=(l.length:Int)-1-i∧i≤l.length∧q.1.length=l.length∧ ∀k,k<l.length→q.1[k]?=if k<i∨l.length≤k+i then l[l.length-1-k]? else l[k]?) (fun q=>q.1=l.reverse) (fun _:List Int=>False) (fun q=>l.length-q.2.1.toNat)
  (fun s=>pzp fuel s.1 s.2.1 s.2.2) ?_ fuel (l,0,IntKind.wrap .i64 ((l.length:Int)-1)) ⟨0,rfl,by simp only[yP (show-9223372036854775808≤(l.length:Int)-1 by omega) (show(l.length:Int)-1≤9223372036854775807 by omega)];omega,by omega,rfl,by
   intro k hk;rw[if_neg (by omega)]⟩ (by simp;omega)) ?_ ?_
 rotate_left
 ·rintro⟨⟨a,b,c⟩,k1,k2⟩
  rw[k1]
  simp only at k2
  rw[←k2]
  rfl
 ·rintro⟨v,_,h⟩;exact h.elim
 ·rintro⟨s,p,q⟩ ⟨i,hp,hq,hi,hs,hk⟩
  simp only at hp hq hs hk
  subst hp;subst hq
  show(∃s',pzp fuel s (i:Int) ((l.length:Int)-1-i)=some (.n s')∧_)∨(∃s',pzp fuel s (i:Int) ((l.length:Int)-1-i)=some (.b s')∧_)∨_
  unfold pzp
  by_cases c:2*i+1<l.length
  ·left
   have hc:(i:Int)<(l.length:Int)-1-i:=by omega
   obtain⟨J,hJ⟩: ∃J,J+i+1=l.length:=⟨l.length-1-i,by omega⟩
   have hJ':(l.length:Int)-1-i=(J:Int):=by omega
   obtain⟨xJ,h1⟩:=getAt (xs:=s) (i:=J) (by omega)
   obtain⟨xi,h2⟩:=getAt (xs:=s) (i:=i) (by omega)
   obtain⟨xK,h3⟩:=getAt (xs:=s.set i xJ) (i:=J) (by simp;omega)
   have hs1:setI s (i:Int) xJ=some (s.set i xJ):=yJ (by omega)
   have hs2:setI (s.set i xJ) (J:Int) xi=some ((s.set i xJ).set J xi):=yJ (by simp;omega)
   have hJi:(i:Int)<(J:Int):=by omega
   simp only[hJ',hJi,decide_true,if_true,zS h1,zS h2,Option.bind_some,hs1,zS h3,hs2]
   refine⟨_,rfl,⟨i+1,wrap1 (by omega),?_,by omega,by simp;omega,?_⟩,?_⟩
   ·show IntKind.i64.wrap ((J:Int)-1)=_
    rw[yP (by omega) (by omega)];omega
   ·intro k hkl
    show((s.set i xJ).set J xi)[k]?=_
    by_cases e:k=J
    ·subst e
     rw[List.getElem?_set_self (by simp;omega),if_pos (by omega),show l.length-1-k=i by omega,←h2,hk i (by omega),if_neg (by omega)]
    ·rw[List.getElem?_set_ne (by omega)]
     by_cases e2:k=i
     ·subst e2
      rw[List.getElem?_set_self (by omega),if_pos (by omega),show l.length-1-k=J by omega,←h1,hk J (by omega),if_neg (by omega)]
     ·rw[List.getElem?_set_ne (by omega),hk k hkl]
      by_cases e3:k<i∨l.length≤k+i
      ·rw[if_pos e3,if_pos (by omega)]
      ·rw[if_neg e3,if_neg (by omega)]
   ·show l.length-(IntKind.i64.wrap ((i:Int)+1)).toNat<l.length-((i:Int)).toNat
    rw[wrap1 (by omega)];omega
  ·right;left
   have hc: ¬((i:Int)<(l.length:Int)-1-i):=by omega
   simp only[hc,decide_false,Bool.false_eq_true,if_false]
   refine⟨_,rfl,?_⟩
   show s=l.reverse
   apply List.ext_getElem?
   intro k
   by_cases hkl:k<l.length
   ·rw[List.getElem?_reverse hkl,hk k hkl]
    split
    ·rfl
    ·rw[show l.length-1-k=k by omega]
   ·rw[List.getElem?_eq_none (by omega),List.getElem?_eq_none (by simp;omega)]
theorem kL: ∀(n:Nat) (l:List Nat),l.Nodup→(∀x∈l,x<n)→l.length≤n
 |0,l,_,h=>by
  cases l with
  |nil=>simp
  |cons x l=>have:=h x (by simp);omega
 |n+1,l,hn,h=>by
  by_cases hm:n∈l
  ·have h1:=kL n (l.erase n) (hn.erase n) (fun x hx=>by
    have h2:=(hn.mem_erase_iff).1 hx
    have:=h x h2.2
    have:=h2.1
    omega)
   rw[List.length_erase_of_mem hm] at h1
   omega
  ·have h1:=kL n l hn (fun x hx=>by
    have:=h x hx
    have:x≠n:=fun e=>hm (e▸hx)
    omega)
   omega
def Bef(l:List Nat)(a b:Nat):Prop:= ∃i j:Nat,i<j∧l[i]?=some a∧l[j]?=some b
theorem Bef.snoc{l:List Nat}{a b x:Nat}(h:Bef l a b):Bef (l++[x]) a b:=by
 obtain⟨i,j,h1,h2,h3⟩:=h
 have hi:=(List.getElem?_eq_some_iff.1 h2).1
 have hj:=(List.getElem?_eq_some_iff.1 h3).1
 exact⟨i,j,h1,by rw[List.getElem?_append_left hi];exact h2,by rw[List.getElem?_append_left hj];exact h3⟩
theorem Bef.last{l:List Nat}{a x:Nat}(h:a∈l):Bef (l++[x]) a x:=by
 obtain⟨i,hi⟩:=List.getElem?_of_mem h
 have hl:=(List.getElem?_eq_some_iff.1 hi).1
 exact⟨i,l.length,hl,by rw[List.getElem?_append_left hl];exact hi,by simp⟩
def cS(h:Nat→Bool)(w:Nat→Nat):Nat→Nat
 |0=>0
 |n+1=>cS h w n+if h n=true then 0 else w n
theorem cS_le{h:Nat→Bool}{w:Nat→Nat}{W:Nat}(hw: ∀j,w j≤W): ∀n,cS h w n≤n*W
 |0=>by simp[cS]
 |n+1=>by
  have:=cS_le hw (h:=h) n
  have:=hw n
  rw[cS,Nat.succ_mul]
  split<;>omega
theorem cS_same{h h':Nat→Bool}{w:Nat→Nat}: ∀n,(∀j,j<n→h' j=h j)→cS h' w n=cS h w n
 |0,_=>rfl
 |n+1,hh=>by rw[cS,cS,cS_same n fun j hj=>hh j (by omega),hh n (by omega)]
theorem cS_add{h h':Nat→Bool}{w:Nat→Nat}{c:Nat}(hc:h c=false)(hh: ∀j,h' j=(h j||decide (j=c))): ∀n,c<n→cS h' w n+w c=cS h w n
 |0,hn=>by omega
 |n+1,hn=>by
  rw[cS,cS]
  by_cases e:c=n
  ·subst e
   have e:=cS_same (h:=h) (h':=h') (w:=w) c (fun j hj=>by
    rw[hh]
    have:j≠c:=by omega
    simp[this])
   rw[e,hh];simp[hc]
  ·have:=cS_add hc hh (w:=w) n (by omega)
   have hn2:h' n=h n:=by
    rw[hh]
    have:n≠c:=by omega
    simp[this]
   rw[hn2];omega
section post
variable {f:Fnc} (hn:fOk f) {fuel:Nat} {g:zI} (h2: ∀j:Nat,j<f.blocks.length→g.succ[j]?=some (TT f j))
def PT(f:Fnc)(a b:Nat):Prop:=Path (EE f) (okk (-1)) a b
theorem okk_all(a:Nat):okk (-1) a:=by unfold okk;omega
theorem PT.refl(f:Fnc)(a:Nat):PT f a a:= .one (okk_all _)
theorem PT.snoc'{a b c:Nat}(h:PT f a b)(e:EE f b c):PT f a c:=Path.snoc h e (okk_all _)
def emb(p:Nat×Nat):A2 Int:=⟨(p.1:Int),(p.2:Int)⟩
def embN(l:List Nat):List Int:=l.map fun(k:Nat)=>(k:Int)
structure PInv (f:Fnc) (w:List Nat) (st:List (Nat×Nat)) (s:zC):Prop where
 V:bV s f.blocks.length
 lt: ∀p∈st,p.1<f.blocks.length∧p.2≤(TT f p.1).length
 wlt: ∀v∈w,v<f.blocks.length
 nd:(w++st.map (·.1)).Nodup
 seen: ∀j,j<f.blocks.length→(bH s j=true↔j∈w∨j∈st.map (·.1))
 cnt: ∀p∈st,∀z,z<p.2→ ∀c:Nat,(TT f p.1)[z]?=some (c:Int)→bH s c=true
 edge: ∀(i:Nat) p q,st[i]?=some p→st[i+1]?=some q→EE f p.1 q.1
 bot:(∃p,st[0]?=some p∧p.1=0)∨(st=[]∧w.getLast?=some 0)
 par: ∀v∈w,v=0∨ ∃p,EE f p v∧(p∈st.map (·.1)∨Bef w v p)
 ed: ∀v∈w,∀c,EE f v c→Bef w c v∨PT f c v
 cl: ∀v∈w,∀c,EE f v c→bH s c=true
 rch: ∀j,j<f.blocks.length→bH s j=true→PT f 0 j
theorem PInv.path{w:List Nat}{st:List (Nat×Nat)}{s:zC}(h:PInv f w st s): ∀(d i:Nat) p q,st[i]?=some p→st[i+d]?=some q→PT f p.1 q.1
 |0,i,p,q,hp,hq=>by
  rw[Nat.add_zero,hp] at hq;cases hq;exact PT.refl _ _
 |d+1,i,p,q,hp,hq=>by
  have hl:i+d<st.length:=by have:=(List.getElem?_eq_some_iff.1 hq).1;omega
  have hr:st[i+d]?=some st[i+d]:=by simp[hl]
  exact(h.path d i p _ hp hr).snoc' (h.edge (i+d) _ q hr hq)
def pm(f:Fnc)(s:List Int×List (A2 Int)×zC):Nat:=cS (bH s.2.2) (fun j=>(TT f j).length+2) f.blocks.length+(s.2.1.map fun p=>(TT f p.a0.toNat).length-p.a1.toNat+1).sum
theorem ka{α:Type}(l:List α)(x:α)(m:α→Nat):((l++[x]).map m).sum=(l.map m).sum+m x:=by simp
include hn h2 in
theorem post_step{w:List Nat}{st:List (Nat×Nat)}{s:zC}(hI:PInv f w st s):
  (∃w' st' s',pzn fuel g (embN w) (st.map emb) s=some (.n (embN w',st'.map emb,s'))∧PInv f w' st' s'∧pm f (embN w',st'.map emb,s')<pm f (embN w,st.map emb,s))∨
   (st=[]∧pzn fuel g (embN w) (st.map emb) s=some (.b (embN w,[],s))):=by
 have hn1:=hn.1
 have hsl:st.length≤f.blocks.length:=by
  have:=kL f.blocks.length (st.map (·.1)) (List.nodup_append.1 hI.nd).2.1 (fun x hx=>by obtain⟨p,hp,rfl⟩:=List.mem_map.1 hx;exact(hI.lt p hp).1)
  simpa using this
 have hwl:w.length≤f.blocks.length:=kL _ w (List.nodup_append.1 hI.nd).1 hI.wlt
 rcases List.eq_nil_or_concat st with rfl|⟨rho,⟨v,k⟩,rfl⟩
 ·right
  refine⟨rfl,?_⟩
  unfold pzn
  simp
 ·left
  rw[List.concat_eq_append] at hI hsl ⊢
  obtain⟨hv,hk⟩:=hI.lt (v,k) (by simp)
  simp only at hv hk
  have hrl:(rho.map emb).length≤4294967:=by simp at hsl ⊢;omega
  have hmap:(rho++[(v,k)]).map emb=rho.map emb++[(⟨(v:Int),(k:Int)⟩:A2 Int)]:=by simp[emb]
  rw[hmap]
  unfold pzn
  have hp:(0:Int)<((rho.map emb++[(⟨(v:Int),(k:Int)⟩:A2 Int)]).length:Int):=by simp
  have hT:=zS (h2 v hv)
  simp only[hp,decide_true,if_true,top_wrap _ _ hrl,top_idx,Option.bind_some,hT]
  by_cases hke:k=(TT f v).length
  ·-- it is left
   subst hke
   have ha:app (embN w) [(v:Int)]=some (embN (w++[v])):=by rw[kV (by simp[embN];omega)];simp[embN]
   simp only[decide_true,if_true,top_cut,Option.bind_some,ha]
   have hvw:v∉w:=by
    intro h
    exact(List.nodup_append.1 hI.nd).2.2 v h v (by simp) rfl
   have hnd:((w++[v])++rho.map (·.1)).Nodup:=by
    have h1:=hI.nd
    rw[List.map_append] at h1
    refine(List.Perm.nodup_iff ?_).1 h1
    rw[List.append_assoc]
    exact List.Perm.append_left w List.perm_append_comm
   have hseen: ∀j,j<f.blocks.length→(bH s j=true↔j∈w++[v]∨j∈rho.map (·.1)):=by
    intro j hj
    rw[hI.seen j hj]
    simp only[List.map_append,List.mem_append,List.map_cons,List.map_nil,List.mem_singleton]
    constructor
    ·rintro(h|h|h)
     ·exact .inl (.inl h)
     ·exact .inr h
     ·exact .inl (.inr h)
    ·rintro((h|h)|h)
     ·exact .inl h
     ·exact .inr (.inr h)
     ·exact .inr (.inl h)
   have hcv: ∀c,EE f v c→bH s c=true:=by
    intro c hc
    obtain⟨z,hz⟩:=List.getElem?_of_mem hc
    exact hI.cnt (v,_) (by simp) z (List.getElem?_eq_some_iff.1 hz).1 c hz
   refine⟨w++[v],rho,s,rfl,⟨hI.V,fun p hp=>hI.lt p (by simp[hp]),?_,hnd,hseen,fun p hp=>hI.cnt p (by simp[hp]),?_,?_,?_,?_,?_,hI.rch⟩,?_⟩
   ·intro x hx
    rcases List.mem_append.1 hx with hx|hx
    ·exact hI.wlt x hx
    ·rw[List.mem_singleton.1 hx];exact hv
   ·intro i p q hp hq
    have hp1:=(List.getElem?_eq_some_iff.1 hp).1
    have hq1:=(List.getElem?_eq_some_iff.1 hq).1
    exact hI.edge i p q (by rw[List.getElem?_append_left hp1];exact hp) (by rw[List.getElem?_append_left hq1];exact hq)
   ·rcases List.eq_nil_or_concat rho with rfl|⟨rho',p',rfl⟩
    ·right
     refine⟨rfl,?_⟩
     rcases hI.bot with ⟨p,h1,h2⟩|⟨h1,_⟩
     ·simp at h1
      subst h1
      simp at h2
      subst h2
      simp
     ·simp at h1
    ·left
     rcases hI.bot with ⟨p,h1,h2⟩|⟨h1,_⟩
     ·refine⟨p,?_,h2⟩
      rw[List.getElem?_append_left (by simp)] at h1
      exact h1
     ·simp at h1
   ·intro x hx
    rcases List.mem_append.1 hx with hx|hx
    ·rcases hI.par x hx with h|⟨p,hE,h⟩
     ·exact .inl h
     ·refine .inr ⟨p,hE,?_⟩
      rcases h with h|h
      ·simp only[List.map_append,List.mem_append,List.map_cons,List.map_nil,List.mem_singleton] at h
       rcases h with h|h
       ·exact .inl h
       ·rw[h];exact .inr (Bef.last hx)
      ·exact .inr h.snoc
    ·rw[List.mem_singleton.1 hx]
     rcases List.eq_nil_or_concat rho with rfl|⟨rho',p',e9⟩
     ·left
      rcases hI.bot with ⟨p,h1,h2⟩|⟨h1,_⟩
      ·simp at h1
       subst h1
       exact h2
      ·simp at h1
     ·right
      rw[List.concat_eq_append] at e9
      subst e9
      refine⟨p'.1,hI.edge rho'.length p' (v,(TT f v).length) (by simp) (by simp),.inl (by simp)⟩
   ·intro x hx c hc
    rcases List.mem_append.1 hx with hx|hx
    ·exact(hI.ed x hx c hc).imp (fun h=>h.snoc) id
    ·rw[List.mem_singleton.1 hx] at hc ⊢
     rcases (hI.seen c (TT_lt hn hc)).1 (hcv c hc) with h|h
     ·exact .inl (Bef.last h)
     ·right
      obtain⟨q,hq,rfl⟩:=List.mem_map.1 h
      obtain⟨i,hi⟩:=List.getElem?_of_mem hq
      have hil:=(List.getElem?_eq_some_iff.1 hi).1
      have hl2:i+(rho.length-i)=rho.length:=by simp at hil;omega
      exact hI.path (rho.length-i) i q (v,(TT f v).length) hi (by rw[hl2];simp)
   ·intro x hx c hc
    rcases List.mem_append.1 hx with hx|hx
    ·exact hI.cl x hx c hc
    ·rw[List.mem_singleton.1 hx] at hc
     exact hcv c hc
   ·show cS _ _ _+((rho.map emb).map _).sum<cS _ _ _+((rho.map emb++[_]).map _).sum
    rw[ka]
    simp
  ·have hkl:k<(TT f v).length:=by omega
   obtain⟨r,hr⟩:=getAt hkl
   obtain⟨hr0,hr1⟩:=TT_in hn (List.mem_of_getElem? hr)
   obtain⟨c,rfl⟩:=Int.eq_ofNat_of_zero_le hr0
   have hc:c<f.blocks.length:=by omega
   have hE:EE f v c:=List.mem_of_getElem? hr
   have hne: ¬((k:Int)=((TT f v).length:Int)):=by omega
   have hlen:=TT_len hn v
   simp only[hne,decide_false,Bool.false_eq_true,if_false,top_set,zS hr,Option.bind_some,wrap1 (show k≤4294967296 by omega)]
   unfold pzm
   have hmp:(rho++[(v,k)]).map (·.1)=(rho++[(v,k+1)]).map (·.1):=by simp
   have emb1:rho.map emb++[(⟨(v:Int),((k+1:Nat):Int)⟩:A2 Int)]=(rho++[(v,k+1)]).map emb:=by simp[emb]
   rcases add_ok hI.V (by omega) fuel (c:Int) with ⟨k1,k2⟩|⟨c',s',e,hc',hb,k1,k3,k4⟩
   ·have hbc:=k2 c rfl hc
    simp only[k1,Option.bind_some,Bool.false_eq_true,if_false]
    refine⟨w,rho++[(v,k+1)],s,by rw[←emb1],⟨hI.V,?_,hI.wlt,by rw[←hmp];exact hI.nd,fun j hj=>by rw[←hmp];exact hI.seen j hj,?_,?_,?_,?_,hI.ed,hI.cl,hI.rch⟩,?_⟩
    ·intro p hp
     rcases List.mem_append.1 hp with hp|hp
     ·exact hI.lt p (by simp[hp])
     ·rw[List.mem_singleton.1 hp];exact⟨hv,by simp;omega⟩
    ·intro p hp z hz c' hc'
     rcases List.mem_append.1 hp with hp|hp
     ·exact hI.cnt p (by simp[hp]) z hz c' hc'
     ·rw[List.mem_singleton.1 hp] at hz hc'
      simp only at hz hc'
      by_cases e:z=k
      ·subst e;rw[hr] at hc';have:=Option.some.inj hc'
       have:c=c':=by omega
       subst this;exact hbc
      ·exact hI.cnt (v,k) (by simp) z (by simp only;omega) c' hc'
    ·intro i p q hp hq
     have hq1:=(List.getElem?_eq_some_iff.1 hq).1
     have key: ∀(j:Nat) (x:Nat×Nat),(rho++[(v,k+1)])[j]?=some x→ ∃y,(rho++[(v,k)])[j]?=some y∧y.1=x.1:=by
      intro j x hx
      by_cases hj:j<rho.length
      ·rw[List.getElem?_append_left hj] at hx;exact⟨x,by rw[List.getElem?_append_left hj];exact hx,rfl⟩
      ·have hj2:=(List.getElem?_eq_some_iff.1 hx).1
       have:j=rho.length:=by simp at hj2;omega
       subst this
       simp at hx;subst hx
       exact⟨(v,k),by simp,rfl⟩
     obtain⟨p',h1,e1⟩:=key i p hp
     obtain⟨q',h2,e2⟩:=key (i+1) q hq
     rw[←e1,←e2];exact hI.edge i p' q' h1 h2
    ·rcases hI.bot with ⟨p,h1,h2⟩|⟨h1,_⟩
     ·left
      by_cases hr0:rho=[]
      ·subst hr0;simp at h1;subst h1;exact⟨(v,k+1),by simp,h2⟩
      ·have hpos:0<rho.length:=List.length_pos_iff.2 hr0
       rw[List.getElem?_append_left hpos] at h1
       exact⟨p,by rw[List.getElem?_append_left hpos];exact h1,h2⟩
     ·simp at h1
    ·intro x hx
     rw[←hmp];exact hI.par x hx
    ·show cS _ _ _+(((rho++[(v,k+1)]).map emb).map _).sum<cS _ _ _+((rho.map emb++[_]).map _).sum
     rw[←emb1,ka,ka]
     simp
     omega
   ·have:c'=c:=by omega
    subst this
    have happ:app (rho.map emb++[(⟨(v:Int),((k+1:Nat):Int)⟩:A2 Int)]) [(⟨(c':Int),0⟩:A2 Int)]=some ((rho++[(v,k+1)]++[(c',0)]).map emb):=by
     rw[kV (by simp;simp at hrl;omega)];simp[emb]
    simp only[k1,Option.bind_some,if_true,happ]
    have hup: ∀j,bH s j=true→bH s' j=true:=fun j h=>by rw[k4 j,h];rfl
    have hcs:bH s' c'=true:=by rw[k4];simp
    have hcn:c'∉w∧c'∉(rho++[(v,k+1)]).map (·.1):=by
     have:=hI.seen c' hc
     rw[hb] at this
     constructor
     ·intro h;exact absurd (this.2 (.inl h)) (by simp)
     ·intro h;rw[←hmp] at h;exact absurd (this.2 (.inr h)) (by simp)
    refine⟨w,rho++[(v,k+1)]++[(c',0)],s',rfl,⟨k3,?_,hI.wlt,?_,?_,?_,?_,?_,?_,hI.ed,fun x hx c hc=>hup c (hI.cl x hx c hc),?_⟩,?_⟩
    ·intro p hp
     rcases List.mem_append.1 hp with hp|hp
     ·rcases List.mem_append.1 hp with hp|hp
      ·exact hI.lt p (by simp[hp])
      ·rw[List.mem_singleton.1 hp];exact⟨hv,by simp;omega⟩
     ·rw[List.mem_singleton.1 hp];exact⟨hc,by simp⟩
    ·rw[List.map_append,←hmp,←List.append_assoc]
     refine List.nodup_append.2 ⟨hI.nd,by simp,?_⟩
     intro a ha b hb2 e9
     rw[List.mem_singleton.1 hb2] at e9
     subst e9
     rcases List.mem_append.1 ha with h|h
     ·exact hcn.1 h
     ·exact hcn.2 (by rw[←hmp];exact h)
    ·intro j hj
     have key:(rho++[(v,k+1)]++[(c',0)]).map (fun p:Nat×Nat=>p.1)=(rho++[(v,k)]).map (fun p:Nat×Nat=>p.1)++[c']:=by simp
     rw[k4 j,Bool.or_eq_true,hI.seen j hj,key]
     simp only[List.mem_append,List.map_cons,List.map_nil,List.mem_singleton,decide_eq_true_eq]
     constructor
     ·rintro((h|h)|h)
      ·exact .inl h
      ·exact .inr (.inl h)
      ·exact .inr (.inr h)
     ·rintro(h|h|h)
      ·exact .inl (.inl h)
      ·exact .inl (.inr h)
      ·exact .inr h
    ·intro p hp z hz c2 hc2
     rcases List.mem_append.1 hp with hp|hp
     ·rcases List.mem_append.1 hp with hp|hp
      ·exact hup _ (hI.cnt p (by simp[hp]) z hz c2 hc2)
      ·rw[List.mem_singleton.1 hp] at hz hc2
       simp only at hz hc2
       by_cases e:z=k
       ·subst e;rw[hr] at hc2;have:=Option.some.inj hc2
        have:c'=c2:=by omega
        subst this;exact hcs
       ·exact hup _ (hI.cnt (v,k) (by simp) z (by simp only;omega) c2 hc2)
     ·rw[List.mem_singleton.1 hp] at hz;simp at hz
    ·intro i p q hp hq
     have key: ∀(j:Nat) (x:Nat×Nat),j<rho.length+1→(rho++[(v,k+1)]++[(c',0)])[j]?=some x→ ∃y,(rho++[(v,k)])[j]?=some y∧y.1=x.1:=by
      intro j x hj hx
      rw[List.getElem?_append_left (by simp;omega)] at hx
      by_cases hj:j<rho.length
      ·rw[List.getElem?_append_left hj] at hx;exact⟨x,by rw[List.getElem?_append_left hj];exact hx,rfl⟩
      ·have:j=rho.length:=by omega
       subst this
       simp at hx;subst hx
       exact⟨(v,k),by simp,rfl⟩
     have hq1:=(List.getElem?_eq_some_iff.1 hq).1
     by_cases hil:i+1<rho.length+1
     ·obtain⟨p',h1,e1⟩:=key i p (by omega) hp
      obtain⟨q',h2,e2⟩:=key (i+1) q hil hq
      rw[←e1,←e2];exact hI.edge i p' q' h1 h2
     ·have:i=rho.length:=by simp at hq1;omega
      subst this
      have e1:p=(v,k+1):=by simpa using hp.symm
      have e2:q=(c',0):=by
       rw[List.getElem?_append_right (by simp)] at hq
       simpa using hq.symm
      subst e1;subst e2
      exact hE
    ·rcases hI.bot with ⟨p,h1,h2⟩|⟨h1,_⟩
     ·left
      by_cases hr0:rho=[]
      ·subst hr0;simp at h1;subst h1;exact⟨(v,k+1),by simp,h2⟩
      ·have hpos:0<rho.length:=List.length_pos_iff.2 hr0
       rw[List.getElem?_append_left hpos] at h1
       exact⟨p,by rw[List.append_assoc,List.getElem?_append_left hpos];exact h1,h2⟩
     ·simp at h1
    ·intro x hx
     rcases hI.par x hx with h|⟨p,hE',h⟩
     ·exact .inl h
     ·refine .inr ⟨p,hE',h.imp (fun h=>?_) id⟩
      rw[List.map_append,←hmp]
      exact List.mem_append_left _ h
    ·intro j hj hbj
     rw[k4 j,Bool.or_eq_true] at hbj
     rcases hbj with h|h
     ·exact hI.rch j hj h
     ·have:j=c':=by simpa using h
      subst this
      refine(hI.rch v hv ?_).snoc' hE
      exact(hI.seen v hv).2 (.inr (by simp))
    ·have hcs2:=cS_add (w:=fun j=>(TT f j).length+2) hb k4 f.blocks.length hc
     show cS _ _ _+(((rho++[(v,k+1)]++[(c',0)]).map emb).map _).sum<cS _ _ _+((rho.map emb++[_]).map _).sum
     have e3:(rho++[(v,k+1)]++[(c',0)]).map emb=(rho.map emb++[(⟨(v:Int),((k+1:Nat):Int)⟩:A2 Int)])++[(⟨(c':Int),0⟩:A2 Int)]:=by simp[emb]
     rw[e3,ka,ka,ka]
     simp at hcs2 ⊢
     omega
structure Post (f:Fnc) (w:List Nat):Prop where
 nd:w.Nodup
 mem: ∀j,j∈w↔PT f 0 j
 last:w.getLast?=some 0
 par: ∀v∈w,v=0∨ ∃p,EE f p v∧Bef w v p
 ed: ∀v∈w,∀c,EE f v c→Bef w c v∨PT f c v
include hn h2 in
theorem post_ok(hg:g.succ.length=f.blocks.length)(hf:17592186044416<fuel)(h0:0<f.blocks.length): ∃w,pzo fuel g=some (embN w)∧Post f w:=by
 have hn1:=hn.1
 obtain⟨s0,e0,hV0,hB0⟩:=new_ok (n:=f.blocks.length) (by omega) fuel
 rcases add_ok hV0 (by omega) fuel 0 with ⟨_,k2⟩|⟨k,s1,k1,_,k3,k4,k5,k6⟩
 ·have:=k2 0 rfl h0
  rw[hB0] at this;cases this
 ·have:k=0:=by omega
  subst this
  have hI0:PInv f [] [(0,0)] s1:=by
   refine⟨k5,?_,by simp,by simp,?_,?_,?_,.inl ⟨(0,0),rfl,rfl⟩,by simp,by simp,by simp,?_⟩
   ·intro p hp;rw[List.mem_singleton.1 hp];exact⟨h0,by simp⟩
   ·intro j hj;rw[k6 j,hB0 j];simp
   ·intro p hp z hz;rw[List.mem_singleton.1 hp] at hz;simp at hz
   ·intro i p q hp hq
    have:=(List.getElem?_eq_some_iff.1 hq).1
    simp at this
   ·intro j hj h
    rw[k6 j,hB0 j] at h
    have:j=0:=by simpa using h
    subst this;exact PT.refl _ _
  unfold pzo pzh pzm
  have ha:app [] [(⟨0,0⟩:A2 Int)]=some ([(0,0)].map emb):=by rw[kV (by simp)];rfl
  simp only[hg,Option.bind_some,e0,k4,if_true,ha]
  refine Or.elim (zj (fun q:List Int×List (A2 Int)×zC=> ∃w st,q.1=embN w∧q.2.1=st.map emb∧PInv f w st q.2.2) (fun q=> ∃w s,q=(embN w,[],s)∧PInv f w [] s) (fun _:List Int=>False) (pm f)
   (fun s=>pzn fuel g s.1 s.2.1 s.2.2) ?_ fuel ([],[(0,0)].map emb,s1) ⟨[],[(0,0)],rfl,rfl,hI0⟩ ?_) ?_ ?_
  rotate_right
  ·rintro⟨v,_,h⟩;exact h.elim
  ·rintro⟨w,st,s⟩ ⟨w',st',rfl,rfl,hI⟩
   rcases post_step hn h2 (fuel:=fuel) hI with ⟨w1,st1,s1,h1,h3,h4⟩|⟨rfl,h1⟩
   ·exact .inl ⟨_,h1,⟨w1,st1,rfl,rfl,h3⟩,h4⟩
   ·exact .inr (.inl ⟨_,h1,w',s,rfl,hI⟩)
  ·have hw: ∀j,(TT f j).length+2≤1048578:=fun j=>by have:=TT_len hn j;omega
   have h3:=cS_le (h:=bH s1) hw f.blocks.length
   have h4:=TT_len hn 0
   show cS _ _ _+_<fuel
   simp[emb]
   have:f.blocks.length*1048578≤1048576*1048578:=Nat.mul_le_mul_right _ hn1
   omega
  ·rintro⟨q,h1,w,s,rfl,hI⟩
   rw[h1]
   refine⟨w,rfl,by simpa using hI.nd,?_,?_,?_,hI.ed⟩
   ·intro j
    constructor
    ·intro h
     exact hI.rch j (hI.wlt j h) ((hI.seen j (hI.wlt j h)).2 (.inl h))
    ·intro h
     refine Path.closed (C:=fun j=>j∈w) ?_ h ?_
     ·intro a b ha hE _
      have hbl:=TT_lt hn hE
      have:=(hI.seen b hbl).1 (hI.cl a ha b hE)
      simpa using this
     ·rcases hI.bot with ⟨p,h1,_⟩|⟨_,h1⟩
      ·simp at h1
      ·exact List.mem_of_getLast? h1
   ·rcases hI.bot with ⟨p,h1,_⟩|⟨_,h1⟩
    ·simp at h1
    ·exact h1
   ·intro v hv
    rcases hI.par v hv with h|⟨p,hE,h⟩
    ·exact .inl h
    ·refine .inr ⟨p,hE,?_⟩
     simpa using h
include hn h2 in
theorem order_ok(hg:g.succ.length=f.blocks.length)(hf:17592186044416<fuel)(h0:0<f.blocks.length): ∃w,pzr fuel g=some (embN w.reverse)∧Post f w∧w.length≤f.blocks.length:=by
 have hn1:=hn.1
 obtain⟨w,h1,h3⟩:=post_ok hn h2 hg hf h0
 have hwl:w.length≤f.blocks.length:=kL _ w h3.nd fun x hx=>by
  have:=(h3.mem x).1 hx
  cases this with
  |one _=>exact h0
  |step a b c=>
   have h5: ∀{a b:Nat},PT f a b→a<f.blocks.length→b<f.blocks.length:=by
    intro a b h ha
    exact Path.closed (C:=fun j=>j<f.blocks.length) (fun a b _ hE _=>TT_lt hn hE) h ha
   exact h5 (a:=0) (.step a b c) h0
 refine⟨w,?_,h3,hwl⟩
 unfold pzr pzh
 have c0: ¬((f.blocks.length:Int)=0):=by omega
 have hr:=reverse_ok (l:=embN w) (by simp[embN];omega) (fuel:=fuel) (by omega)
 simp only[hg,Option.bind_some,c0,decide_false,Bool.false_eq_true,if_false,h1,hr]
 simp[embN]
include hn in
theorem gsucc_ok(hg:g.succ.length=f.blocks.length)(h2: ∀j:Nat,j<f.blocks.length→g.succ[j]?=some (TT f j)){x:Nat}(hx:x<f.blocks.length):pz16 fuel g x=some (TT f x):=by
 have hn1:=hn.1
 have hl:=TT_len hn x
 have ha:app [] (TT f x)=some (TT f x):=by rw[kV (by simp;omega)];rfl
 have c1: ¬((x:Int)<0):=by omega
 have c2: ¬((f.blocks.length:Int)≤(x:Int)):=by omega
 simp[pz16,pzt,pzh,pzs,ix2,A2.at,zS (h2 x hx),ha,hg,c1,c2]
end post
end Go.Proofs.Ytoojnagdenoknaa.PL
set_option linter.unusedVariables false
set_option linter.unusedSectionVars false
set_option linter.unusedSimpArgs false
namespace Go.Proofs.Ytoojnagdenoknaa.PL
open Go
section pred
variable {f:Fnc} (hn:fOk f) {fuel:Nat} {g:zI} (h2: ∀j:Nat,j<f.blocks.length→g.succ[j]?=some (TT f j))
include hn in
theorem gpred_ok(hg:g.succ.length=f.blocks.length)(h3: ∀j:Nat,j<f.blocks.length→g.pred[j]?=some (PP f f.blocks.length j)){x:Nat}(hx:x<f.blocks.length):pzu fuel g x=some (PP f f.blocks.length x):=by
 have hn1:=hn.1
 have hl:=PP_len f f.blocks.length x
 have ha:app [] (PP f f.blocks.length x)=some (PP f f.blocks.length x):=by rw[kV (by simp;omega)];rfl
 have c1: ¬((x:Int)<0):=by omega
 have c2: ¬((f.blocks.length:Int)≤(x:Int)):=by omega
 simp[pzu,pzt,pzh,pzs,ix2,A2.at,zS (h3 x hx),ha,hg,c1,c2]
end pred
end Go.Proofs.Ytoojnagdenoknaa.PL
set_option linter.unusedVariables false
set_option linter.unusedSectionVars false
namespace Go.Proofs.Ytoojnagdenoknaa.PL
open Go
section dom
variable {E:Nat→Nat→Prop} {ord:Nat→Nat}
def Rb(E:Nat→Nat→Prop)(j:Nat):Prop:=Path E (fun _=>True) 0 j
def Dm(E:Nat→Nat→Prop)(a b:Nat):Prop:=Rb E b∧ ¬Path E (fun x=>x≠a) 0 b
inductive Wk (E:Nat→Nat→Prop) (ord:Nat→Nat):Nat→List Nat→Nat→Prop
 |root:Wk E ord 0 [0] 0
 |fwd {k π p i} (h:Wk E ord k π p) (e:E p i) (o:ord p<ord i):Wk E ord k (i::π) i
 |ret {k π p i} (h:Wk E ord k π p) (e:E p i) (o:ord i≤ord p):Wk E ord (k+1) (i::π) i
theorem Wk.self{k:Nat}{π:List Nat}{j:Nat}(h:Wk E ord k π j):j∈π:=by cases h<;>simp
theorem Wk.pre{k:Nat}{π:List Nat}{j:Nat}(h:Wk E ord k π j): ∀u∈π,∃k' π',Wk E ord k' π' u∧k'≤k∧π' <:+ π:=by
 induction h with
 |root=>intro u hu;rw[List.mem_singleton.1 hu];exact⟨0,[0],.root,Nat.le_refl _,List.suffix_refl _⟩
 |fwd h e o ih=>
  intro u hu
  rcases List.mem_cons.1 hu with rfl|hu
  ·exact⟨_,_,.fwd h e o,Nat.le_refl _,List.suffix_refl _⟩
  ·obtain⟨k',π',h1,h2,h3⟩:=ih u hu
   exact⟨k',π',h1,h2,h3.trans (List.suffix_cons _ _)⟩
 |ret h e o ih=>
  intro u hu
  rcases List.mem_cons.1 hu with rfl|hu
  ·exact⟨_,_,.ret h e o,Nat.le_refl _,List.suffix_refl _⟩
  ·obtain⟨k',π',h1,h2,h3⟩:=ih u hu
   exact⟨k',π',h1,by omega,h3.trans (List.suffix_cons _ _)⟩
theorem simple{ok:Nat→Prop}{j:Nat}(h:Path E ok 0 j): ∃k π,Wk E ord k π j∧π.Nodup∧ ∀x∈π,ok x:=
 h.closed (C:=fun j=> ∃k π,Wk E ord k π j∧π.Nodup∧ ∀x∈π,ok x) (fun p i ⟨k,π,h1,h2,h3⟩ e hi=>by
  by_cases hm:i∈π
  ·obtain⟨k',π',g1,g2,g3⟩:=h1.pre i hm
   exact⟨k',π',g1,g3.sublist.nodup h2,fun x hx=>h3 x (g3.subset hx)⟩
  ·by_cases o:ord p<ord i
   ·exact⟨_,_,.fwd h1 e o,List.nodup_cons.2 ⟨hm,h2⟩,fun x hx=>by rcases List.mem_cons.1 hx with rfl|hx;exact hi;exact h3 x hx⟩
   ·exact⟨_,_,.ret h1 e (by omega),List.nodup_cons.2 ⟨hm,h2⟩,fun x hx=>by rcases List.mem_cons.1 hx with rfl|hx;exact hi;exact h3 x hx⟩)
  ⟨0,[0],.root,by simp,fun x hx=>by rw[List.mem_singleton.1 hx];exact h.fst⟩
theorem Wk.len{k:Nat}{π:List Nat}{j:Nat}(h:Wk E ord k π j):k<π.length:=by
 induction h with
 |root=>simp
 |fwd h e o ih=>simp;omega
 |ret h e o ih=>simp;omega
theorem Wk.reach{k:Nat}{π:List Nat}{j:Nat}(h:Wk E ord k π j):Rb E j∧ ∀x∈π,Rb E x:=by
 induction h with
 |root=>exact⟨.one trivial,fun x hx=>by rw[List.mem_singleton.1 hx];exact .one trivial⟩
 |fwd h e o ih=>exact⟨ih.1.snoc e trivial,fun x hx=>by rcases List.mem_cons.1 hx with rfl|hx;exact ih.1.snoc e trivial;exact ih.2 x hx⟩
 |ret h e o ih=>exact⟨ih.1.snoc e trivial,fun x hx=>by rcases List.mem_cons.1 hx with rfl|hx;exact ih.1.snoc e trivial;exact ih.2 x hx⟩
theorem Dm.self{b:Nat}(h:Rb E b):Dm E b b:=⟨h,fun p=>p.lst rfl⟩
theorem Dm.zero{b:Nat}(h:Rb E b):Dm E 0 b:=⟨h,fun p=>p.fst rfl⟩
theorem Dm.pred{d i p:Nat}(h:Dm E d i)(hd:d≠i)(e:E p i)(hp:Rb E p):Dm E d p:=⟨hp,fun q=>h.2 (q.snoc e fun x=>hd x.symm)⟩
theorem Dm.root{d:Nat}(h:Dm E d 0):d=0:=by
 refine Decidable.byContradiction fun c=>h.2 (.one ?_)
 exact fun e=>c e.symm
theorem Dm.trans{a b c:Nat}(h:Dm E a b)(k:Dm E b c):Dm E a c:=by
 refine⟨k.1,fun q=>k.2 ?_⟩
 obtain⟨m,π,h1,_,h3⟩:=simple (ord:=fun _=>0) q
 have hb:b∉π:=by
  intro hb
  obtain⟨m',π',g1,_,g3⟩:=h1.pre b hb
  have key: ∀{k π j},Wk E (fun _=>0) k π j→(∀x∈π,x≠a)→Path E (fun x=>x≠a) 0 j:=by
   intro k π j h
   induction h with
   |root=>intro h;exact .one (h 0 (by simp))
   |fwd h e o ih=>intro h;exact(ih fun x hx=>h x (by simp[hx])).snoc e (h _ (by simp))
   |ret h e o ih=>intro h;exact(ih fun x hx=>h x (by simp[hx])).snoc e (h _ (by simp))
  exact h.2 (key g1 fun x hx=>h3 x (g3.subset hx))
 have key: ∀{k π j},Wk E (fun _=>0) k π j→b∉π→Path E (fun x=>x≠b) 0 j:=by
  intro k π j h
  induction h with
  |root=>intro h;exact .one fun e=>h (by simp[e])
  |fwd h e o ih=>intro h;exact(ih fun q=>h (by simp[q])).snoc e fun q=>h (by simp[q])
  |ret h e o ih=>intro h;exact(ih fun q=>h (by simp[q])).snoc e fun q=>h (by simp[q])
 exact key h1 hb
variable (hpar: ∀j,Rb E j→j≠0→ ∃p,E p j∧Rb E p∧ord p<ord j)
include hpar
theorem dm_ord{d:Nat}: ∀{b:Nat},Dm E d b→d=b∨ord d<ord b:=by
 have key: ∀(m b:Nat),ord b≤m→Dm E d b→d=b∨ord d<ord b:=by
  intro m
  induction m with
  |zero=>
   intro b hb h
   by_cases h0:b=0
   ·subst h0;exact .inl h.root
   ·obtain⟨p,_,_,o⟩:=hpar b h.1 h0;omega
  |succ m ih=>
   intro b hb h
   by_cases e:d=b
   ·exact .inl e
   ·right
    by_cases h0:b=0
    ·subst h0;exact absurd h.root e
    ·obtain⟨p,hp,hr,o⟩:=hpar b h.1 h0
     rcases ih p (by omega) (h.pred e hp hr) with rfl|h2
     ·exact o
     ·omega
 exact fun {b} h=>key _ b (Nat.le_refl _) h
omit hpar
inductive Ch (I:Nat→Option Nat):Nat→Nat→Prop
 |refl {b}:Ch I b b
 |up {b c a} (h:I b=some c) (k:Ch I c a):Ch I b a
theorem Ch.trans{I:Nat→Option Nat}{a b c:Nat}(h:Ch I a b)(k:Ch I b c):Ch I a c:=by
 induction h with
 |refl=>exact k
 |up e _ ih=>exact .up e (ih k)
structure Inv (E:Nat→Nat→Prop) (ord:Nat→Nat) (I:Nat→Option Nat) (lev:Nat→Nat):Prop where
 root:I 0=some 0
 some': ∀j,Rb E j→j≠0→0<lev j→I j≠none
 m: ∀j c,j≠0→I j=some c→Rb E j∧Rb E c∧ord c<ord j∧I c≠none
 l: ∀j c,j≠0→I j=some c→ ∀d,Dm E d j→d≠j→Dm E d c
 w: ∀j c,j≠0→I j=some c→ ∀k π,Wk E ord k π j→k<lev j→c∈π
 mono: ∀i j,Rb E i→Rb E j→ord i<ord j→lev j≤lev i
theorem Inv.chain{I:Nat→Option Nat}{lev:Nat→Nat}(h:Inv E ord I lev){a:Nat}: ∀{j:Nat},Ch I j a→ ∀k π,Wk E ord k π j→k<lev j∨j=0→a∈π:=by
 intro j hc
 induction hc with
 |refl=>intro k π hw _;exact hw.self
 | @up b c a e k ih=>
  intro q π hw hl
  by_cases h0:b=0
  ·subst h0
   rw[h.root] at e;cases e
   exact ih q π hw (.inr rfl)
  ·have hl':q<lev b:=by rcases hl with hl|hl;exact hl;exact absurd hl h0
   have hcp:=h.w b c h0 e q π hw hl'
   obtain⟨k',π',g1,g2,g3⟩:=hw.pre c hcp
   obtain⟨m1,m2,m3,_⟩:=h.m b c h0 e
   refine g3.subset (ih k' π' g1 (.inl ?_))
   have:=h.mono c b m2 m1 m3
   omega
theorem Inv.up{I:Nat→Option Nat}{lev:Nat→Nat}(h:Inv E ord I lev)(hpar: ∀j,Rb E j→j≠0→ ∃p,E p j∧Rb E p∧ord p<ord j){d:Nat}: ∀(m j:Nat),ord j≤m→I j≠none→Dm E d j→Ch I j d:=by
 intro m
 induction m with
 |zero=>
  intro j hj hi hd
  by_cases h0:j=0
  ·subst h0;rw[hd.root];exact .refl
  ·obtain⟨p,_,_,o⟩:=hpar j hd.1 h0;omega
 |succ m ih=>
  intro j hj hi hd
  by_cases e:d=j
  ·subst e;exact .refl
  ·by_cases h0:j=0
   ·subst h0;exact absurd hd.root e
   ·cases hc:I j with
    |none=>exact absurd hc hi
    |some c=>
     obtain⟨m1,m2,m3,m4⟩:=h.m j c h0 hc
     exact .up hc (ih c (by omega) m4 (h.l j c h0 hc d hd e))
theorem Inv.sound{I:Nat→Option Nat}{lev:Nat→Nat}(h:Inv E ord I lev){n:Nat}(hn: ∀j,Rb E j→j<n){a j:Nat}(hj:Rb E j)(hl:n≤lev j)(hc:Ch I j a):Dm E a j:=by
 refine⟨hj,fun q=>?_⟩
 obtain⟨k,π,h1,h2,h3⟩:=simple (ord:=ord) q
 have hlen:π.length≤n:=kL n π h2 fun x hx=>hn x (h1.reach.2 x hx)
 have:=h1.len
 exact h3 a (h.chain hc k π h1 (.inl (by omega))) rfl
theorem Inv.step{I:Nat→Option Nat}{lev:Nat→Nat}(h:Inv E ord I lev){i c:Nat}(h0:i≠0)(hi:Rb E i)(hc:Rb E c)(ho:ord c<ord i)(hcs:I c≠none)(hl: ∀d,Dm E d i→d≠i→Dm E d c)
  (hch: ∀p,E p i→Rb E p→I p≠none→Ch I p c) (hlev: ∀p,Rb E p→lev i≤lev p∧(ord p<ord i→lev i+1≤lev p)) (hinj: ∀a b,Rb E a→Rb E b→ord a=ord b→a=b):
  Inv E ord (fun j=>if j=i then some c else I j) (fun j=>if j=i then lev i+1 else lev j):=by
 have hci:c≠i:=by rintro rfl;omega
 refine⟨by show(if 0=i then some c else I 0)=some 0;rw[if_neg (by omega)];exact h.root,fun j hj hj0 hl=>?_,fun j q hj0 hq=>?_,fun j q hj0 hq d hd hdj=>?_,fun j q hj0 hq k π hw hk=>?_,fun a b ha hb hab=>?_⟩
 ·split
  ·simp
  ·rename_i e;rw[if_neg e] at hl;exact h.some' j hj hj0 hl
 ·split at hq
  ·rename_i e;cases hq;subst e
   exact⟨hi,hc,ho,by rw[if_neg hci];exact hcs⟩
  ·obtain⟨m1,m2,m3,m4⟩:=h.m j q hj0 hq
   refine⟨m1,m2,m3,?_⟩
   split
   ·simp
   ·exact m4
 ·split at hq
  ·rename_i e;cases hq;subst e;exact hl d hd hdj
  ·exact h.l j q hj0 hq d hd hdj
 ·split at hq
  ·rename_i e
   cases hq
   subst e
   rw[if_pos rfl] at hk
   have last: ∀k' π' p,Wk E ord k' π' p→E p j→k'<lev p∨p=0→c∈π':=by
    intro k' π' p hw' e hl'
    have hrp:=hw'.reach.1
    refine h.chain (hch p e hrp ?_) k' π' hw' hl'
    rcases hl' with hl'|rfl
    ·by_cases hp0:p=0
     ·subst hp0;rw[h.root];simp
     ·exact h.some' p hrp hp0 (by omega)
    ·rw[h.root];simp
   cases hw with
   |root=>exact absurd rfl hj0
   |fwd hw' e o=>
    have:=(hlev _ hw'.reach.1).2 o
    exact List.mem_cons_of_mem _ (last _ _ _ hw' e (.inl (by omega)))
   |ret hw' e o=>
    have:=(hlev _ hw'.reach.1).1
    exact List.mem_cons_of_mem _ (last _ _ _ hw' e (.inl (by omega)))
  ·rename_i e;rw[if_neg e] at hk;exact h.w j q hj0 hq k π hw hk
 ·have h1:=hlev a ha
  by_cases ea:a=i
  ·subst ea
   rw[if_pos rfl,if_neg (by rintro rfl;omega)]
   have:=h.mono a b ha hb hab
   omega
  ·rw[if_neg ea]
   by_cases eb:b=i
   ·subst eb;rw[if_pos rfl];exact h1.2 hab
   ·rw[if_neg eb];exact h.mono a b ha hb hab
theorem Inv.uniq{I I':Nat→Option Nat}{lev lev':Nat→Nat}(h:Inv E ord I lev)(h':Inv E ord I' lev')(hpar: ∀j,Rb E j→j≠0→ ∃p,E p j∧Rb E p∧ord p<ord j)(hinj: ∀a b,Rb E a→Rb E b→ord a=ord b→a=b){n:Nat}(hn: ∀j,Rb E j→j<n)
  {j:Nat} (hj:Rb E j) (h0:j≠0) (hl:n≤lev j) (hl':n≤lev' j) (hp:0<n):I j=I' j:=by
 cases e:I j with
 |none=>exact absurd e (h.some' j hj h0 (by omega))
 |some c=>
  cases e':I' j with
  |none=>exact absurd e' (h'.some' j hj h0 (by omega))
  |some c'=>
   obtain⟨m1,m2,m3,_⟩:=h.m j c h0 e
   obtain⟨k1,k2,k3,_⟩:=h'.m j c' h0 e'
   have d1:=h.sound hn hj hl (.up e .refl)
   have d2:=h'.sound hn hj hl' (.up e' .refl)
   have a1:=h'.l j c' h0 e' c d1 (by rintro rfl;omega)
   have a2:=h.l j c h0 e c' d2 (by rintro rfl;omega)
   rcases dm_ord hpar a1 with rfl|o1
   ·rfl
   ·rcases dm_ord hpar a2 with rfl|o2
    ·rfl
    ·omega
end dom
end Go.Proofs.Ytoojnagdenoknaa.PL
set_option linter.unusedVariables false
set_option linter.unusedSectionVars false
set_option linter.unusedSimpArgs false
namespace Go.Proofs.Ytoojnagdenoknaa.PL
open Go
theorem Path.mono{E:Nat→Nat→Prop}{ok ok':Nat→Prop}(h: ∀x,ok x→ok' x){a b:Nat}(p:Path E ok a b):Path E ok' a b:=by
 induction p with
 |one k=>exact .one (h _ k)
 |step k e _ ih=>exact .step (h _ k) e ih
theorem rb_pt{f:Fnc}{j:Nat}:Rb (EE f) j↔PT f 0 j:=⟨fun h=>Path.mono (fun x _=>okk_all x) h,fun h=>Path.mono (fun _ _=>trivial) h⟩
def od(w:List Nat)(v:Nat):Nat:=w.reverse.idxOf v
section ord
variable {f:Fnc} {w:List Nat} (hP:Post f w)
include hP
theorem yV{j:Nat}:Rb (EE f) j↔j∈w:=rb_pt.trans (hP.mem j).symm
theorem od_at{i v:Nat}(h:w.reverse[i]?=some v):od w v=i:=by
 obtain⟨h1,h2⟩:=List.getElem?_eq_some_iff.1 h
 have hr:w.reverse.Nodup:=List.pairwise_reverse.2 (hP.nd.imp Ne.symm)
 have:=hr.idxOf_getElem i h1
 rw[h2] at this;exact this
theorem od_get{v:Nat}(h:v∈w):w.reverse[od w v]?=some v:=by
 have h1:w.reverse.idxOf v<w.reverse.length:=List.idxOf_lt_length_iff.2 (by simpa using h)
 rw[od,List.getElem?_eq_getElem h1,List.getElem_idxOf h1]
theorem od_lt{v:Nat}(h:v∈w):od w v<w.length:=by
 have h1:w.reverse.idxOf v<w.reverse.length:=List.idxOf_lt_length_iff.2 (by simpa using h)
 simpa [od] using h1
theorem od_zero:od w 0=0:=od_at hP (by
 have:=hP.last
 rw[List.getLast?_eq_getElem?] at this
 have hl:0<w.length:=by
  cases w with
  |nil=>simp at this
  |cons=>simp
 rw[List.getElem?_reverse hl];simpa using this)
theorem od_inj{a b:Nat}(ha:Rb (EE f) a)(hb:Rb (EE f) b)(h:od w a=od w b):a=b:=by
 have h1:=od_get hP ((yV hP).1 ha)
 rw[h,od_get hP ((yV hP).1 hb)] at h1
 exact(Option.some.inj h1).symm
theorem od_par{j:Nat}(hj:Rb (EE f) j)(h0:j≠0): ∃p,EE f p j∧Rb (EE f) p∧od w p<od w j:=by
 rcases hP.par j ((yV hP).1 hj) with h|⟨p,e,i,k,hik,hi,hk⟩
 ·exact absurd h h0
 ·have li:=(List.getElem?_eq_some_iff.1 hi).1
  have lk:=(List.getElem?_eq_some_iff.1 hk).1
  refine⟨p,e,(yV hP).2 (List.mem_of_getElem? hk),?_⟩
  have h1:w.reverse[w.length-1-i]?=some j:=by
   rw[List.getElem?_reverse (by omega),show w.length-1-(w.length-1-i)=i by omega];exact hi
  have h2:w.reverse[w.length-1-k]?=some p:=by
   rw[List.getElem?_reverse (by omega),show w.length-1-(w.length-1-k)=k by omega];exact hk
  rw[od_at hP h1,od_at hP h2];omega
theorem rb_lt(hn:fOk f)(h0:0<f.blocks.length){j:Nat}(h:Rb (EE f) j):j<f.blocks.length:=
 Path.closed (C:=fun j=>j<f.blocks.length) (fun a b _ e _=>TT_lt hn e) h h0
end ord
def Iof(c:List Int)(j:Nat):Option Nat:=match c[j]? with|some z=>if 0≤z then some z.toNat else none|none=>none
theorem Iof_some{c:List Int}{j k:Nat}:Iof c j=some k↔c[j]?=some (k:Int):=by
 unfold Iof
 constructor
 ·intro h
  split at h
  ·rename_i z hz
   split at h
   ·rename_i h0
    cases h;rw[hz];congr 1;omega
   ·cases h
  ·cases h
 ·intro h
  rw[h];simp
theorem Iof_none{c:List Int}(hn: ∀z∈c,-1≤z){j:Nat}(hj:j<c.length)(h:Iof c j=none):c[j]?=some (-1):=by
 unfold Iof at h
 have hz:c[j]?=some c[j]:=by simp[hj]
 rw[hz] at h ⊢
 have:=hn c[j] (List.getElem_mem hj)
 simp only at h
 split at h
 ·cases h
 ·congr 1;omega
theorem Iof_set{c:List Int}{i m:Nat}(hi:i<c.length)(j:Nat):Iof (c.set i (m:Int)) j=if j=i then some m else Iof c j:=by
 unfold Iof
 rw[List.getElem?_set]
 by_cases e:i=j
 ·subst e;simp[hi]
 ·rw[if_neg e,if_neg (Ne.symm e)]
section inv
variable {E:Nat→Nat→Prop} {ord:Nat→Nat} {I:Nat→Option Nat} {lev:Nat→Nat} (h:Inv E ord I lev)
include h
theorem Inv.ch_le{a c:Nat}(k:Ch I a c):ord c≤ord a:=by
 induction k with
 |refl=>exact Nat.le_refl _
 | @up b c a e k ih=>
  by_cases h0:b=0
  ·subst h0;rw[h.root] at e;cases e;exact ih
  ·have:=(h.m b c h0 e).2.2.1;omega
theorem Inv.ch_some{a c:Nat}(k:Ch I a c)(ha:I a≠none):I c≠none:=by
 induction k with
 |refl=>exact ha
 | @up b c a e k ih=>
  by_cases h0:b=0
  ·subst h0;rw[h.root] at e;cases e;exact ih ha
  ·exact ih (h.m b c h0 e).2.2.2
theorem Inv.rb{j:Nat}(hj:I j≠none):Rb E j:=by
 by_cases h0:j=0
 ·subst h0;exact .one trivial
 ·cases e:I j with
  |none=>exact absurd e hj
  |some c=>exact(h.m j c h0 e).1
theorem Inv.relev{lev':Nat→Nat}(h1: ∀j,j≠0→Rb E j→lev' j=lev j)(h2: ∀i j,Rb E i→Rb E j→ord i<ord j→lev' j≤lev' i):Inv E ord I lev':=
 ⟨h.root,fun j hj h0 hl=>h.some' j hj h0 (by rw[←h1 j h0 hj];exact hl),h.m,h.l,fun j c h0 hc k π hw hk=>h.w j c h0 hc k π hw (by rw[←h1 j h0 hw.reach.1];exact hk),h2⟩
end inv
def ODL(f:Fnc)(w:List Nat)(O:List Int):Prop:=O.length=f.blocks.length∧ ∀j:Nat,j<f.blocks.length→O[j]?=some (if j∈w then(od w j:Int) else-1)
section meet
variable {f:Fnc} {w:List Nat} {c O:List Int} {lev:Nat→Nat} {fuel:Nat} (hn:fOk f) (h0:0<f.blocks.length) (hP:Post f w) (hw:w.length≤f.blocks.length) (hO:ODL f w O) (hI:Inv (EE f) (od w) (Iof c) lev) (hf:17592186044416<fuel)
include hn h0 hP hO in
theorem ord_at{j:Nat}(h:Rb (EE f) j):idx O (j:Int)=some (od w j:Int):=by
 have:=hO.2 j (rb_lt hP hn h0 h)
 rw[if_pos ((yV hP).1 h)] at this
 exact zS this
include hn h0 hP hw hO hI hf in
theorem meet_ok{a b:Nat}(ha:Iof c a≠none)(hb:Iof c b≠none): ∃m:Nat,pzy fuel ⟨c,O⟩ a b=some (m:Int)∧Ch (Iof c) a m∧Ch (Iof c) b m∧ ∀d,Dm (EE f) d a→Dm (EE f) d b→Dm (EE f) d m:=by
 have hn1:=hn.1
 have hlt: ∀{v:Nat},Rb (EE f) v→od w v<f.blocks.length:=fun {v} h=>Nat.lt_of_lt_of_le (od_lt hP ((yV hP).1 h)) hw
 have up: ∀{x y:Nat},Iof c x≠none→Iof c y≠none→(∀d,Dm (EE f) d a→Dm (EE f) d b→Dm (EE f) d x∧Dm (EE f) d y)→od w y<od w x→ ∃z:Nat,idx c (x:Int)=some (z:Int)∧Iof c x=some z∧Iof c z≠none∧od w z<od w x∧ ∀d,Dm (EE f) d a→Dm (EE f) d b→Dm (EE f) d z:=by
  intro x y hx hy hd ho
  have hx0:x≠0:=by rintro rfl;rw[od_zero hP] at ho;omega
  cases e:Iof c x with
  |none=>exact absurd e hx
  |some z=>
   obtain⟨m1,m2,m3,m4⟩:=hI.m x z hx0 e
   refine⟨z,zS (Iof_some.1 e),rfl,m4,m3,fun d da db=>?_⟩
   obtain⟨k1,k2⟩:=hd d da db
   refine hI.l x z hx0 e d k1 ?_
   rintro rfl
   rcases dm_ord (fun j hj h0=>od_par hP hj h0) k2 with rfl|k3
   ·omega
   ·omega
 unfold pzy
 refine Or.elim (zj (ρ:=Int) (fun s:Int×Int=> ∃x y:Nat,s.1=x∧s.2=y∧Iof c x≠none∧Iof c y≠none∧Ch (Iof c) a x∧Ch (Iof c) b y∧ ∀d,Dm (EE f) d a→Dm (EE f) d b→Dm (EE f) d x∧Dm (EE f) d y)
  (fun s=> ∃x:Nat,s.1=x∧Ch (Iof c) a x∧Ch (Iof c) b x∧ ∀d,Dm (EE f) d a→Dm (EE f) d b→Dm (EE f) d x) (fun _=>False) (fun s=>od w s.1.toNat+od w s.2.toNat) (fun s=>pzx fuel ⟨c,O⟩ s.1 s.2) ?_ fuel ((a:Int),(b:Int))
  ⟨a,b,rfl,rfl,ha,hb,.refl,.refl,fun d h k=>⟨h,k⟩⟩ ?_) ?_ ?_
 rotate_right
 ·rintro⟨v,_,h⟩;exact h.elim
 ·rintro⟨_,_⟩ ⟨x,y,rfl,rfl,hx,hy,cx,cy,hd⟩
  show(∃s',pzx fuel ⟨c,O⟩ (x:Int) (y:Int)=some (.n s')∧_)∨(∃s',pzx fuel ⟨c,O⟩ (x:Int) (y:Int)=some (.b s')∧_)∨_
  unfold pzx
  by_cases e:x=y
  ·subst e
   right;left
   exact⟨(x,x),by simp,x,rfl,cx,cy,fun d da db=>(hd d da db).1⟩
  ·left
   have rx:=hI.rb hx
   have ry:=hI.rb hy
   rw[if_pos (by simp;omega)]
   obtain⟨s1,e1,x',rfl,hx',cx',hd',o1,o2⟩: ∃s1:Int,loopE fuel (fun s=>pzv fuel ⟨c,O⟩ (y:Int) s) (x:Int)=some (.n s1)∧ ∃x':Nat,s1=x'∧Iof c x'≠none∧Ch (Iof c) a x'∧(∀d,Dm (EE f) d a→Dm (EE f) d b→Dm (EE f) d x'∧Dm (EE f) d y)∧od w x'≤od w x∧od w x'≤od w y:=by
    refine Or.elim (zj (ρ:=Ex (Int×Int) Int) (fun s:Int=> ∃x':Nat,s=x'∧Iof c x'≠none∧Ch (Iof c) a x'∧(∀d,Dm (EE f) d a→Dm (EE f) d b→Dm (EE f) d x'∧Dm (EE f) d y)∧od w x'≤od w x)
     (fun s=> ∃x':Nat,s=x'∧Iof c x'≠none∧Ch (Iof c) a x'∧(∀d,Dm (EE f) d a→Dm (EE f) d b→Dm (EE f) d x'∧Dm (EE f) d y)∧od w x'≤od w x∧od w x'≤od w y) (fun _=>False) (fun s=>od w s.toNat) (fun s=>pzv fuel ⟨c,O⟩ (y:Int) s) ?_ fuel (x:Int)
     ⟨x,rfl,hx,cx,hd,Nat.le_refl _⟩ ?_) (fun h=>h) ?_
    rotate_right
    ·rintro⟨v,_,h⟩;exact h.elim
    ·rintro _ ⟨x',rfl,hx',cx',hd',o1⟩
     show(∃s',pzv fuel ⟨c,O⟩ (y:Int) (x':Int)=some (.n s')∧_)∨(∃s',pzv fuel ⟨c,O⟩ (y:Int) (x':Int)=some (.b s')∧_)∨_
     unfold pzv
     simp only[ord_at hn h0 hP hO (hI.rb hx'),ord_at hn h0 hP hO ry,Option.bind_some]
     by_cases o:od w y<od w x'
     ·obtain⟨z,k1,k2,k3,k4,k5⟩:=up hx' hy hd' o
      left
      refine⟨z,by simp only[k1,Option.bind_some];rw[if_pos (by simp;omega)],⟨z,rfl,k3,cx'.trans (.up k2 .refl),fun d da db=>⟨k5 d da db,(hd' d da db).2⟩,by omega⟩,by simpa using k4⟩
     ·right;left
      exact⟨x',by rw[if_neg (by simp;omega)],x',rfl,hx',cx',hd',o1,by omega⟩
    ·have:=hlt rx;simp;omega
   obtain⟨s2,e2,y',rfl,hy',cy',hd2,o3,o4⟩: ∃s2:Int,loopE fuel (fun s=>pzw fuel ⟨c,O⟩ (x':Int) s) (y:Int)=some (.n s2)∧ ∃y':Nat,s2=y'∧Iof c y'≠none∧Ch (Iof c) b y'∧(∀d,Dm (EE f) d a→Dm (EE f) d b→Dm (EE f) d x'∧Dm (EE f) d y')∧od w y'≤od w y∧od w y'≤od w x':=by
    refine Or.elim (zj (ρ:=Ex (Int×Int) Int) (fun s:Int=> ∃y':Nat,s=y'∧Iof c y'≠none∧Ch (Iof c) b y'∧(∀d,Dm (EE f) d a→Dm (EE f) d b→Dm (EE f) d x'∧Dm (EE f) d y')∧od w y'≤od w y)
     (fun s=> ∃y':Nat,s=y'∧Iof c y'≠none∧Ch (Iof c) b y'∧(∀d,Dm (EE f) d a→Dm (EE f) d b→Dm (EE f) d x'∧Dm (EE f) d y')∧od w y'≤od w y∧od w y'≤od w x') (fun _=>False) (fun s=>od w s.toNat) (fun s=>pzw fuel ⟨c,O⟩ (x':Int) s) ?_ fuel (y:Int)
     ⟨y,rfl,hy,cy,hd',Nat.le_refl _⟩ ?_) (fun h=>h) ?_
    rotate_right
    ·rintro⟨v,_,h⟩;exact h.elim
    ·rintro _ ⟨y',rfl,hy',cy',hd2,o1⟩
     show(∃s',pzw fuel ⟨c,O⟩ (x':Int) (y':Int)=some (.n s')∧_)∨(∃s',pzw fuel ⟨c,O⟩ (x':Int) (y':Int)=some (.b s')∧_)∨_
     unfold pzw
     simp only[ord_at hn h0 hP hO (hI.rb hx'),ord_at hn h0 hP hO (hI.rb hy'),Option.bind_some]
     by_cases o:od w x'<od w y'
     ·obtain⟨z,k1,k2,k3,k4,k5⟩:=up hy' hx' (fun d da db=>(hd2 d da db).symm) o
      left
      refine⟨z,by simp only[k1,Option.bind_some];rw[if_pos (by simp;omega)],⟨z,rfl,k3,cy'.trans (.up k2 .refl),fun d da db=>⟨(hd2 d da db).1,k5 d da db⟩,by omega⟩,by simpa using k4⟩
     ·right;left
      exact⟨y',by rw[if_neg (by simp;omega)],y',rfl,hy',cy',hd2,o1,by omega⟩
    ·have:=hlt ry;simp;omega
   refine⟨((x':Int),(y':Int)),by simp only[e1,e2,bindE,Option.bind_some],⟨x',y',rfl,rfl,hx',hy',cx',cy',hd2⟩,?_⟩
   have:od w x≠od w y:=fun q=>e (od_inj hP rx ry q)
   simp
   omega
 ·have h1:=hlt (hI.rb ha)
  have h2:=hlt (hI.rb hb)
  simp;omega
 ·rintro⟨⟨_,y⟩,h1,x,rfl,h2,h3,h4⟩
  rw[h1]
  exact⟨x,rfl,h2,h3,h4⟩
end meet
end Go.Proofs.Ytoojnagdenoknaa.PL
set_option linter.unusedVariables false
set_option linter.unusedSectionVars false
set_option linter.unusedSimpArgs false
namespace Go.Proofs.Ytoojnagdenoknaa.PL
open Go
def LV(w:List Nat)(r x j:Nat):Nat:=if od w j≤x then r+1 else r
structure DT (f:Fnc) (w:List Nat) (r x:Nat) (c:List Int):Prop where
 len:c.length=f.blocks.length
 neg: ∀z∈c,-1≤z
 inv:Inv (EE f) (od w) (Iof c) (LV w r x)
def BS(f:Fnc)(w:List Nat)(c:List Int)(i:Nat)(ps:List Int)(b:Int):Prop:=
 (b= -1∧ ∀p:Nat,(p:Int)∈ps→Rb (EE f) p→Iof c p=none)∨
 ∃m:Nat,b=m∧Iof c m≠none∧(∀p:Nat,(p:Int)∈ps→Rb (EE f) p→Iof c p≠none→Ch (Iof c) p m)∧ ∀d,Dm (EE f) d i→d≠i→Dm (EE f) d m
section round
variable {f:Fnc} {w:List Nat} {O:List Int} {fuel:Nat} {g:zI} (hn:fOk f) (h0:0<f.blocks.length) (hP:Post f w) (hw:w.length≤f.blocks.length) (hO:ODL f w O) (hf:17592186044416<fuel)
 (hg:g.succ.length=f.blocks.length) (h3: ∀j:Nat,j<f.blocks.length→g.pred[j]?=some (PP f f.blocks.length j))
include hn h0 hP hw hO hf in
theorem best_ok{c c0:List Int}{r x:Nat}(hD:DT f w r x c){i:Nat}(hi:Rb (EE f) i):
  ∃b z:Int,loopE fuel (fun s=>pzz fuel (⟨c0,O⟩:dom_Tree) c (PP f f.blocks.length i) s.1 s.2) ((-1),0)=some (.n (b,z))∧BS f w c i (PP f f.blocks.length i) b:=by
 have hn1:=hn.1
 have hpl:=PP_len f f.blocks.length i
 have hI:=hD.inv
 refine Or.elim (zj (ρ:=List Int×Bool) (fun s:Int×Int=> ∃k:Nat,s.2=k∧k≤(PP f f.blocks.length i).length∧BS f w c i ((PP f f.blocks.length i).take k) s.1) (fun s=>BS f w c i (PP f f.blocks.length i) s.1) (fun _=>False)
  (fun s=>(PP f f.blocks.length i).length-s.2.toNat) (fun s=>pzz fuel (⟨c0,O⟩:dom_Tree) c (PP f f.blocks.length i) s.1 s.2) ?_ fuel ((-1),0) ⟨0,rfl,by omega,.inl ⟨rfl,by simp⟩⟩ (by simp;omega)) ?_ ?_
 rotate_right
 ·rintro⟨v,_,h⟩;exact h.elim
 ·rintro⟨b,_⟩ ⟨k,rfl,hk,hB⟩
  show(∃s',pzz fuel (⟨c0,O⟩:dom_Tree) c (PP f f.blocks.length i) b (k:Int)=some (.n s')∧_)∨(∃s',pzz fuel (⟨c0,O⟩:dom_Tree) c (PP f f.blocks.length i) b (k:Int)=some (.b s')∧_)∨_
  unfold pzz
  by_cases c1:k<(PP f f.blocks.length i).length
  ·left
   obtain⟨q,hq⟩:=getAt c1
   obtain⟨p,rfl,hpn,hpe⟩:=PP_mem.1 (List.mem_of_getElem? hq)
   have hmem: ∀p':Nat,(p':Int)∈(PP f f.blocks.length i).take (k+1)→(p':Int)∈(PP f f.blocks.length i).take k∨p'=p:=by
    intro p' h
    rw[List.take_add_one,hq,Option.toList_some,List.mem_append,List.mem_singleton] at h
    rcases h with h|h
    ·exact .inl h
    ·right;omega
   rw[if_pos (by simp;omega),zS hq]
   simp only[Option.bind_some,zS (hO.2 p hpn)]
   have skip:(Rb (EE f) p→Iof c p=none)→BS f w c i ((PP f f.blocks.length i).take (k+1)) b:=by
    intro hs
    rcases hB with ⟨e,h⟩|⟨m,e,h1,h2,h4⟩
    ·refine .inl ⟨e,fun p' hp' hr=>?_⟩
     rcases hmem p' hp' with h5|rfl
     ·exact h p' h5 hr
     ·exact hs hr
    ·refine .inr ⟨m,e,h1,fun p' hp' hr hne=>?_,h4⟩
     rcases hmem p' hp' with h5|rfl
     ·exact h2 p' h5 hr hne
     ·exact absurd (hs hr) hne
   by_cases hm:p∈w
   ·have hr:=(yV hP).2 hm
    rw[if_pos hm]
    have n1: ¬((od w p:Int)= -1):=by omega
    simp only[n1,decide_false,Bool.false_eq_true,if_false]
    cases e:Iof c p with
    |none=>
     have:=Iof_none hD.neg (by rw[hD.len];exact hpn) e
     simp only[zS this,Option.bind_some,decide_true,if_true]
     refine⟨(b,((k+1:Nat):Int)),by rw[wrap1 (by omega)],⟨k+1,rfl,c1,skip fun _=>e⟩,by simp;omega⟩
    |some z=>
     have n2: ¬((z:Int)= -1):=by omega
     simp only[zS (Iof_some.1 e),Option.bind_some,n2,decide_false,Bool.false_eq_true,if_false]
     have hne:Iof c p≠none:=by rw[e];simp
     rcases hB with ⟨rfl,h⟩|⟨m,rfl,h1,h2,h4⟩
     ·simp only[decide_true,if_true,Option.bind_some]
      refine⟨((p:Int),((k+1:Nat):Int)),by rw[wrap1 (by omega)],⟨k+1,rfl,c1,.inr ⟨p,rfl,hne,fun p' hp' hr' hne'=>?_,fun d hd hdi=>hd.pred hdi hpe hr⟩⟩,by simp;omega⟩
      rcases hmem p' hp' with h5|rfl
      ·exact absurd (h p' h5 hr') hne'
      ·exact .refl
     ·have n3: ¬((m:Int)= -1):=by omega
      obtain⟨m',k1,k2,k3,k4⟩:=meet_ok hn h0 hP hw hO hI hf h1 hne
      simp only[n3,decide_false,Bool.false_eq_true,if_false,k1,Option.bind_some]
      refine⟨((m':Int),((k+1:Nat):Int)),by rw[wrap1 (by omega)],⟨k+1,rfl,c1,.inr ⟨m',rfl,hI.ch_some k2 h1,fun p' hp' hr' hne'=>?_,fun d hd hdi=>k4 d (h4 d hd hdi) (hd.pred hdi hpe hr)⟩⟩,by simp;omega⟩
      rcases hmem p' hp' with h5|rfl
      ·exact(h2 p' h5 hr' hne').trans k2
      ·exact k3
   ·rw[if_neg hm]
    simp only[decide_true,if_true,Option.bind_some]
    refine⟨(b,((k+1:Nat):Int)),by rw[wrap1 (by omega)],⟨k+1,rfl,c1,skip fun hr=>absurd ((yV hP).1 hr) hm⟩,by simp;omega⟩
  ·right;left
   refine⟨(b,(k:Int)),by rw[if_neg (by simp;omega)],?_⟩
   rwa [List.take_of_length_le (by omega)] at hB
 ·rintro⟨⟨b,z⟩,h1,h2⟩
  exact⟨b,z,h1,h2⟩
include hn h0 hP hw hO hf hg h3 in
theorem round_ok{c:List Int}{r:Nat}(hD:DT f w r 0 c):
  ∃(b:Bool) (c':List Int),pz11 fuel ⟨c,O⟩ g (embN (w.reverse.drop 1))=some (b,⟨c',O⟩)∧DT f w (r+1) 0 c'∧(b=false→c'=c)∧(f.blocks.length≤r→b=false):=by
 have hn1:=hn.1
 have hpar: ∀j,Rb (EE f) j→j≠0→ ∃p,EE f p j∧Rb (EE f) p∧od w p<od w j:=fun j hj h=>od_par hP hj h
 have hinj: ∀a b,Rb (EE f) a→Rb (EE f) b→od w a=od w b→a=b:=fun a b ha hb h=>od_inj hP ha hb h
 have hll:(embN (w.reverse.drop 1)).length=w.length-1:=by simp[embN]
 unfold pz11
 refine Or.elim (zj (ρ:=Bool×dom_Tree) (fun s:List Int×Int×Bool=> ∃k:Nat,s.2.1=k∧k≤w.length-1∧DT f w r k s.1∧(s.2.2=false→s.1=c)∧(f.blocks.length≤r→s.2.2=false))
  (fun s=>DT f w r (w.length-1) s.1∧(s.2.2=false→s.1=c)∧(f.blocks.length≤r→s.2.2=false)) (fun _=>False) (fun s=>w.length-1-s.2.1.toNat)
  (fun s=>pz10 fuel ⟨c,O⟩ g (embN (w.reverse.drop 1)) s.1 s.2.1 s.2.2) ?_ fuel (c,0,false) ⟨0,rfl,by omega,hD,fun _=>rfl,fun _=>rfl⟩ (by simp;omega)) ?_ ?_
 rotate_right
 ·rintro⟨v,_,h⟩;exact h.elim
 ·rintro⟨c2,_,ch⟩ ⟨k,rfl,hk,hD2,hc,hs⟩
  simp only at hD2 hc hs
  show(∃s',pz10 fuel ⟨c,O⟩ g (embN (w.reverse.drop 1)) c2 (k:Int) ch=some (.n s')∧_)∨(∃s',pz10 fuel ⟨c,O⟩ g (embN (w.reverse.drop 1)) c2 (k:Int) ch=some (.b s')∧_)∨_
  unfold pz10
  by_cases c1:k<w.length-1
  ·left
   have hI:=hD2.inv
   obtain⟨i,hi⟩: ∃i,w.reverse[k+1]?=some i:=getAt (by simp;omega)
   have hrx:(embN (w.reverse.drop 1))[k]?=some (i:Int):=by
    simp only[embN,List.getElem?_map,List.getElem?_drop,show 1+k=k+1 by omega,hi,Option.map_some]
   have oi:od w i=k+1:=od_at hP hi
   have ri:Rb (EE f) i:=(yV hP).2 (by simpa using List.mem_of_getElem? hi)
   have i0:i≠0:=by rintro rfl;rw[od_zero hP] at oi;omega
   have il:=rb_lt hP hn h0 ri
   obtain⟨b,z,e1,hB⟩:=best_ok (c0:=c) hn h0 hP hw hO hf hD2 ri
   obtain⟨p,pe,rp,po⟩:=hpar i ri i0
   have pn:Iof c2 p≠none:=by
    by_cases p0:p=0
    ·subst p0;rw[hI.root];simp
    ·exact hI.some' p rp p0 (by unfold LV;rw[if_pos (by omega)];omega)
   have pm:(p:Int)∈PP f f.blocks.length i:=PP_mem.2 ⟨p,rfl,rb_lt hP hn h0 rp,pe⟩
   rcases hB with ⟨_,h⟩|⟨m,rfl,h1,h2,h4⟩
   ·exact absurd (h p pm rp) pn
   ·have cp:=h2 p pm rp pn
    have mo:od w m<od w i:=Nat.lt_of_le_of_lt (hI.ch_le cp) po
    have il2:i<c2.length:=by rw[hD2.len];exact il
    have lvi:LV w r k i=r:=by unfold LV;rw[if_neg (by omega)]
    have hst:=hI.step (i:=i) (c:=m) i0 ri (hI.rb h1) mo h1 h4 (fun q qe rq qn=>h2 q (PP_mem.2 ⟨q,rfl,rb_lt hP hn h0 rq,qe⟩) rq qn)
     (fun q rq=>by
      rw[lvi]
      unfold LV
      constructor
      ·split<;>omega
      ·intro o;rw[if_pos (by omega)];omega) hinj
    have hst2:Inv (EE f) (od w) (fun j=>if j=i then some m else Iof c2 j) (LV w r (k+1)):=by
     refine hst.relev (fun j j0 rj=>?_) (fun a b ra rb o=>?_)
     ·show LV w r (k+1) j=if j=i then LV w r k i+1 else LV w r k j
      by_cases e:j=i
      ·subst e;rw[if_pos rfl,lvi];unfold LV;rw[if_pos (by omega)]
      ·rw[if_neg e]
       have:od w j≠k+1:=fun q=>e (hinj j i rj ri (by omega))
       unfold LV
       by_cases o:od w j≤k
       ·rw[if_pos o,if_pos (by omega)]
       ·rw[if_neg o,if_neg (by omega)]
     ·unfold LV;split<;>split<;>omega
    have hst3:Inv (EE f) (od w) (Iof (c2.set i (m:Int))) (LV w r (k+1)):=by
     have:Iof (c2.set i (m:Int))=fun j=>if j=i then some m else Iof c2 j:=funext fun j=>Iof_set il2 j
     rw[this];exact hst2
    have hD3:DT f w r (k+1) (c2.set i (m:Int)):=⟨by rw[List.length_set];exact hD2.len,fun z hz=>by
     rcases List.mem_or_eq_of_mem_set hz with h|h
     ·exact hD2.neg z h
     ·omega,hst3⟩
    obtain⟨y,hy⟩:=getAt il2
    rw[hll,if_pos (by simp;omega),zS hrx]
    simp only[Option.bind_some,gpred_ok hn hg h3 il,e1,bindE,zS hy]
    by_cases ey:y=(m:Int)
    ·have hset:c2.set i (m:Int)=c2:=by
      refine List.ext_getElem? fun j=>?_
      rw[List.getElem?_set]
      by_cases e:i=j
      ·subst e;rw[if_pos rfl,if_pos il2,hy,ey]
      ·rw[if_neg e]
     rw[hset] at hD3
     simp only[ey,ne_eq,not_true_eq_false,decide_false,Bool.false_eq_true,if_false,Option.bind_some]
     exact⟨(c2,((k+1:Nat):Int),ch),by rw[wrap1 (by omega)],⟨k+1,rfl,by omega,hD3,hc,hs⟩,by simp;omega⟩
    ·have hun: ¬f.blocks.length≤r:=by
      intro hr
      have:=hI.uniq hst3 hpar hinj (n:=f.blocks.length) (fun j hj=>rb_lt hP hn h0 hj) ri i0 (by rw[lvi];exact hr) (by unfold LV;rw[if_pos (by omega)];omega) h0
      rw[Iof_set il2,if_pos rfl] at this
      have:=Iof_some.1 this
      rw[hy] at this
      exact ey (Option.some.inj this)
     simp only[ey,ne_eq,not_false_eq_true,decide_true,if_true,yJ il2,Option.bind_some]
     exact⟨(c2.set i (m:Int),((k+1:Nat):Int),true),by rw[wrap1 (by omega)],⟨k+1,rfl,by omega,hD3,fun h=>(by cases h),fun h=>absurd h hun⟩,by simp;omega⟩
  ·right;left
   refine⟨(c2,(k:Int),ch),by rw[hll,if_neg (by simp;omega)],?_,hc,hs⟩
   have:k=w.length-1:=by omega
   rwa [this] at hD2
 ·rintro⟨⟨c',z,b⟩,h1,hD2,hc,hs⟩
  simp only at hD2 hc hs
  simp only[h1,bindE]
  refine⟨b,c',rfl,⟨hD2.len,hD2.neg,hD2.inv.relev (fun j j0 rj=>?_) fun a b ra rb o=>?_⟩,hc,hs⟩
  ·have hj:=od_lt hP ((yV hP).1 rj)
   have:od w j≠0:=fun q=>j0 (hinj j 0 rj (.one trivial) (by rw[q,od_zero hP]))
   unfold LV
   rw[if_neg (by omega),if_pos (by omega)]
  ·unfold LV;split<;>split<;>omega
end round
end Go.Proofs.Ytoojnagdenoknaa.PL
set_option linter.unusedVariables false
set_option linter.unusedSectionVars false
set_option linter.unusedSimpArgs false
namespace Go.Proofs.Ytoojnagdenoknaa.PL
open Go
theorem loopE_from{σ ρ:Type}(P:Nat→σ→Prop)(B:σ→Prop)(f:σ→Option (Ex σ ρ))(N:Nat)(step: ∀r s,P r s→(∃s',f s=some (.n s')∧P (r+1) s'∧r<N)∨ ∃s',f s=some (.b s')∧B s'):
  ∀(fuel r:Nat) (s:σ),P r s→r≤N→N-r+1≤fuel→ ∃s',loopE fuel f s=some (.n s')∧B s':=by
 intro fuel
 induction fuel with
 |zero=>intro r s _ _ h;omega
 |succ n ih=>
  intro r s hP hr hf
  rcases step r s hP with ⟨s1,h1,h2,h3⟩|⟨s1,h1,h2⟩
  ·rw[loopE,h1];exact ih (r+1) s1 h2 (by omega) (by omega)
  ·rw[loopE,h1];exact⟨s1,rfl,h2⟩
structure DomT (f:Fnc) (w:List Nat) (t:dom_Tree):Prop where
 o:ODL f w t.order
 len:t.idom.length=f.blocks.length
 zero:t.idom[0]?=some (-1)
 at': ∀j:Nat,Rb (EE f) j→j≠0→ ∃c:Nat,t.idom[j]?=some (c:Int)∧Rb (EE f) c∧od w c<od w j∧ ∀d,d≠j→(Dm (EE f) d j↔Dm (EE f) d c)
section new
variable {f:Fnc} {fuel:Nat} {g:zI} (hn:fOk f) (h0:0<f.blocks.length) (hf:17592186044416<fuel)
 (hg:g.succ.length=f.blocks.length) (h2: ∀j:Nat,j<f.blocks.length→g.succ[j]?=some (TT f j)) (h3: ∀j:Nat,j<f.blocks.length→g.pred[j]?=some (PP f f.blocks.length j))
include hn h0 hf hg h2 h3 in
theorem dom_new_ok: ∃t w,pz15 fuel g=some t∧Post f w∧w.length≤f.blocks.length∧DomT f w t:=by
 have hn1:=hn.1
 obtain⟨w,hor,hP,hw⟩:=order_ok hn h2 hg hf h0
 have hpar: ∀j,Rb (EE f) j→j≠0→ ∃p,EE f p j∧Rb (EE f) p∧od w p<od w j:=fun j hj h=>od_par hP hj h
 have z0:0∈w:=(yV hP).1 (.one trivial)
 have hwl:0<w.length:=List.length_pos_of_mem z0
 have hrl:(embN w.reverse).length=w.length:=by simp[embN]
 unfold pz15 pzh
 simp only[hg,Option.bind_some,mk_nat (n:=f.blocks.length) (z:=(0:Int)) (by omega)]
 obtain⟨z,e1⟩: ∃z:Int,loopE fuel (fun s:Int×List Int×List Int=>pz12 fuel (List.replicate f.blocks.length 0) s.1 s.2.1 s.2.2) (0,List.replicate f.blocks.length 0,List.replicate f.blocks.length 0)=some (.n (z,List.replicate f.blocks.length (-1),List.replicate f.blocks.length (-1))):=by
  refine Or.elim (zj (ρ:=dom_Tree) (fun s:Int×List Int×List Int=> ∃k:Nat,s.1=k∧k≤f.blocks.length∧s.2.1.length=f.blocks.length∧s.2.2.length=f.blocks.length∧(∀j:Nat,j<k→s.2.1[j]?=some (-1))∧ ∀j:Nat,j<k→s.2.2[j]?=some (-1))
   (fun s=>s.2.1=List.replicate f.blocks.length (-1)∧s.2.2=List.replicate f.blocks.length (-1)) (fun _=>False) (fun s=>f.blocks.length-s.1.toNat) (fun s=>pz12 fuel (List.replicate f.blocks.length 0) s.1 s.2.1 s.2.2) ?_ fuel (0,List.replicate f.blocks.length 0,List.replicate f.blocks.length 0)
   ⟨0,rfl,by omega,by simp,by simp,by omega,by omega⟩ (by simp;omega)) ?_ ?_
  rotate_right
  ·rintro⟨v,_,h⟩;exact h.elim
  ·rintro⟨_,c1,c2⟩ ⟨k,rfl,hk,l1,l2,a1,a2⟩
   simp only at l1 l2 a1 a2
   show(∃s',pz12 fuel (List.replicate f.blocks.length 0) (k:Int) c1 c2=some (.n s')∧_)∨(∃s',pz12 fuel (List.replicate f.blocks.length 0) (k:Int) c1 c2=some (.b s')∧_)∨_
   unfold pz12
   rw[List.length_replicate]
   by_cases c:k<f.blocks.length
   ·left
    obtain⟨y1,hy1⟩:=getAt (xs:=c1) (i:=k) (by omega)
    obtain⟨y2,hy2⟩:=getAt (xs:=c2) (i:=k) (by omega)
    rw[if_pos (by simp;omega),zS hy1]
    simp only[Option.bind_some,zS hy2,yJ (xs:=c1) (i:=k) (x:=(-1:Int)) (by omega),yJ (xs:=c2) (i:=k) (x:=(-1:Int)) (by omega)]
    refine⟨(((k+1:Nat):Int),c1.set k (-1),c2.set k (-1)),by rw[wrap1 (by omega)],⟨k+1,rfl,by omega,by simpa using l1,by simpa using l2,fun j hj=>?_,fun j hj=>?_⟩,by simp;omega⟩
    ·simp only[List.getElem?_set]
     split
     ·rw[if_pos (by omega)]
     ·exact a1 j (by omega)
    ·simp only[List.getElem?_set]
     split
     ·rw[if_pos (by omega)]
     ·exact a2 j (by omega)
   ·right;left
    refine⟨((k:Int),c1,c2),by rw[if_neg (by simp;omega)],?_,?_⟩
    ·refine List.ext_getElem? fun j=>?_
     rw[List.getElem?_replicate]
     split
     ·exact a1 j (by omega)
     ·exact List.getElem?_eq_none (by simp only;omega)
    ·refine List.ext_getElem? fun j=>?_
     rw[List.getElem?_replicate]
     split
     ·exact a2 j (by omega)
     ·exact List.getElem?_eq_none (by simp only;omega)
  ·rintro⟨⟨z,c1,c2⟩,h1,e1,e2⟩
   simp only at e1 e2
   subst e1;subst e2
   exact⟨z,h1⟩
 simp only[e1,bindE,hor,Option.bind_some]
 obtain⟨O,z',e2,hO⟩: ∃(O:List Int) (z':Int),loopE fuel (fun s:List Int×Int=>pz13 fuel (embN w.reverse) s.1 s.2) (List.replicate f.blocks.length (-1),0)=some (.n (O,z'))∧ODL f w O:=by
  refine Or.elim (zj (ρ:=dom_Tree) (fun s:List Int×Int=> ∃k:Nat,s.2=k∧k≤w.length∧s.1.length=f.blocks.length∧ ∀j:Nat,j<f.blocks.length→s.1[j]?=some (if j∈w∧od w j<k then(od w j:Int) else-1))
   (fun s=>ODL f w s.1) (fun _=>False) (fun s=>w.length-s.2.toNat) (fun s=>pz13 fuel (embN w.reverse) s.1 s.2) ?_ fuel (List.replicate f.blocks.length (-1),0)
   ⟨0,rfl,by omega,by simp,fun j hj=>by simp[List.getElem?_replicate,hj]⟩ (by simp;omega)) ?_ ?_
  rotate_right
  ·rintro⟨v,_,h⟩;exact h.elim
  ·rintro⟨c5,_⟩ ⟨k,rfl,hk,l5,a5⟩
   simp only at l5 a5
   show(∃s',pz13 fuel (embN w.reverse) c5 (k:Int)=some (.n s')∧_)∨(∃s',pz13 fuel (embN w.reverse) c5 (k:Int)=some (.b s')∧_)∨_
   unfold pz13
   rw[hrl]
   by_cases c:k<w.length
   ·left
    obtain⟨i,hi⟩: ∃i,w.reverse[k]?=some i:=getAt (by simp;omega)
    have hx:(embN w.reverse)[k]?=some (i:Int):=by simp only[embN,List.getElem?_map,hi,Option.map_some]
    have oi:=od_at hP hi
    have mi:i∈w:=by simpa using List.mem_of_getElem? hi
    have il:=rb_lt hP hn h0 ((yV hP).2 mi)
    obtain⟨y,hy⟩:=getAt (xs:=c5) (i:=i) (by omega)
    rw[if_pos (by simp;omega),zS hx]
    simp only[Option.bind_some,zS hy,yJ (xs:=c5) (i:=i) (x:=(k:Int)) (by omega)]
    refine⟨(c5.set i (k:Int),((k+1:Nat):Int)),by rw[wrap1 (by omega)],⟨k+1,rfl,by omega,by simpa using l5,fun j hj=>?_⟩,by simp;omega⟩
    simp only[List.getElem?_set]
    by_cases e:i=j
    ·subst e
     rw[if_pos rfl,if_pos (by omega),if_pos ⟨mi,by omega⟩,oi]
    ·rw[if_neg e,a5 j hj]
     by_cases mj:j∈w
     ·have:od w j≠k:=fun q=>e (od_inj hP ((yV hP).2 mi) ((yV hP).2 mj) (by omega))
      by_cases o:od w j<k
      ·rw[if_pos ⟨mj,o⟩,if_pos ⟨mj,by omega⟩]
      ·rw[if_neg (fun q=>o q.2),if_neg (fun q=>o (by omega))]
     ·rw[if_neg (fun q=>mj q.1),if_neg (fun q=>mj q.1)]
   ·right;left
    refine⟨(c5,(k:Int)),by rw[if_neg (by simp;omega)],l5,fun j hj=>?_⟩
    rw[a5 j hj]
    by_cases mj:j∈w
    ·have:=od_lt hP mj
     rw[if_pos mj,if_pos ⟨mj,by omega⟩]
    ·rw[if_neg mj,if_neg (fun q=>mj q.1)]
  ·rintro⟨⟨O,z'⟩,h1,h⟩
   exact⟨O,z',h1,h⟩
 have r0:idx (List.replicate f.blocks.length (-1:Int)) 0=some (-1):=zS (i:=0) (by simp[List.getElem?_replicate,h0])
 have s0:setI (List.replicate f.blocks.length (-1:Int)) 0 0=some ((List.replicate f.blocks.length (-1:Int)).set 0 ((0:Nat):Int)):=yJ (i:=0) (by simpa using h0)
 have nz: ¬((embN w.reverse).length:Int)=0:=by rw[hrl];omega
 simp only[e2,bindE,nz,decide_false,Bool.false_eq_true,if_false,r0,s0,Option.bind_some]
 have sl1:sli (embN w.reverse) 1 ((embN w.reverse).length:Int)=some (embN (w.reverse.drop 1)):=by
  unfold sli
  rw[if_pos (by rw[hrl];omega)]
  congr 1
  rw[hrl]
  simp only[embN,List.map_drop]
  rw[List.take_of_length_le (by simp)]
  rfl
 have hI0:Iof ((List.replicate f.blocks.length (-1:Int)).set 0 ((0:Nat):Int))=fun j=>if j=0 then some 0 else none:=by
  funext j
  rw[Iof_set (by simpa using h0)]
  split
  ·rfl
  ·unfold Iof
   rw[List.getElem?_replicate]
   split
   ·rename_i z hz
    split at hz
    ·cases hz;rfl
    ·cases hz
   ·rfl
 have hD0:DT f w 0 0 ((List.replicate f.blocks.length (-1:Int)).set 0 ((0:Nat):Int)):=by
  refine⟨by simp,fun z hz=>?_,?_⟩
  ·rcases List.mem_or_eq_of_mem_set hz with h|h
   ·rw[(List.mem_replicate.1 h).2];omega
   ·omega
  ·rw[hI0]
   refine⟨rfl,fun j hj j0 hl=>?_,fun j c j0 hc=>?_,fun j c j0 hc=>?_,fun j c j0 hc=>?_,fun i j hi hj o=>?_⟩
   ·have:od w j≠0:=fun q=>j0 (od_inj hP hj (.one trivial) (by rw[q,od_zero hP]))
    unfold LV at hl;rw[if_neg (by omega)] at hl;omega
   ·simp only[if_neg j0] at hc;cases hc
   ·simp only[if_neg j0] at hc;cases hc
   ·simp only[if_neg j0] at hc;cases hc
   ·unfold LV;split<;>split<;>omega
 obtain⟨t,e3,ht⟩:=loopE_from (ρ:=dom_Tree) (fun r (t:dom_Tree)=>t.order=O∧DT f w r 0 t.idom) (fun t=>t.order=O∧ ∀r,∃r',r≤r'∧DT f w r' 0 t.idom) (fun s=>pz14 fuel g (embN w.reverse) s) f.blocks.length (by
  rintro r ⟨c,O'⟩ ⟨rfl,hD⟩
  simp only at hD
  show(∃s',pz14 fuel g (embN w.reverse) ⟨c,O'⟩=some (.n s')∧_)∨(∃s',pz14 fuel g (embN w.reverse) ⟨c,O'⟩=some (.b s')∧_)
  obtain⟨b,c',q1,q2,q3,q4⟩:=round_ok hn h0 hP hw hO hf hg h3 hD
  unfold pz14
  simp only[sl1,q1,Option.bind_some]
  cases b with
  |true=>
   left
   exact⟨_,rfl,⟨rfl,q2⟩,Nat.lt_of_not_le fun h=>by cases q4 h⟩
  |false=>
   right
   have e:=q3 rfl
   subst e
   refine⟨_,rfl,rfl,fun r2=>?_⟩
   have all: ∀k,DT f w (r+k) 0 c':=by
    intro k
    induction k with
    |zero=>exact hD
    |succ k ih=>
     obtain⟨b,c',p1,p2,p3,p4⟩:=round_ok hn h0 hP hw hO hf hg h3 ih
     rw[q1] at p1
     simp only[Option.some.injEq,Prod.mk.injEq,dom_Tree.mk.injEq,and_true] at p1
     obtain⟨rfl,rfl⟩:=p1
     exact p2
   exact⟨r+r2,by omega,all r2⟩) fuel 0 ⟨_,O⟩ ⟨rfl,hD0⟩ (by omega) (by omega)
 obtain⟨rfl,hall⟩:=ht
 obtain⟨r,hr,hD⟩:=hall f.blocks.length
 have hI:=hD.inv
 obtain⟨y,hy⟩:=getAt (xs:=t.idom) (i:=0) (by rw[hD.len];exact h0)
 have i0:idx t.idom 0=some y:=zS (i:=0) hy
 have s1:setI t.idom 0 (-1)=some (t.idom.set 0 (-1)):=yJ (i:=0) (by rw[hD.len];exact h0)
 simp only[e3,i0,s1,Option.bind_some]
 refine⟨_,w,rfl,hP,hw,hO,by simpa using hD.len,by simp[hD.len,h0],fun j hj j0=>?_⟩
 have lv:f.blocks.length≤LV w r 0 j:=by unfold LV;split<;>omega
 cases e:Iof t.idom j with
 |none=>exact absurd e (hI.some' j hj j0 (by omega))
 |some c=>
  obtain⟨m1,m2,m3,m4⟩:=hI.m j c j0 e
  have cd:Dm (EE f) c j:=hI.sound (fun j hj=>rb_lt hP hn h0 hj) hj lv (.up e .refl)
  refine⟨c,?_,m2,m3,fun d hd=>⟨fun h=>hI.l j c j0 e d h hd,fun h=>h.trans cd⟩⟩
  have:=Iof_some.1 e
  simp only[List.getElem?_set]
  rw[if_neg (Ne.symm j0)];exact this
end new
section is
variable {f:Fnc} {w:List Nat} {t:dom_Tree} {fuel:Nat} (hn:fOk f) (h0:0<f.blocks.length) (hP:Post f w) (hw:w.length≤f.blocks.length) (hT:DomT f w t) (hf:17592186044416<fuel)
include hn hT in
theorem in_dom{j:Nat}(hj:j<f.blocks.length):pz1b fuel t (j:Int)=some (decide (j∈w)):=by
 have hn1:=hn.1
 unfold pz1b
 rw[hT.o.1,if_pos (by simp;omega),zS (hT.o.2 j hj)]
 by_cases m:j∈w
 ·rw[if_pos m,Option.bind_some,Option.bind_some,decide_eq_true m]
  exact congrArg some (decide_eq_true (by omega))
 ·simp[m]
include hn h0 hP hw hT hf in
theorem is_ok{a b:Nat}(hb:b<f.blocks.length): ∃r,pz1f fuel t (a:Int) (b:Int)=some r∧(r=true↔Dm (EE f) a b):=by
 have hn1:=hn.1
 have out0:pz1b fuel t (-1)=some false:=by
  unfold pz1b
  rw[if_neg (by simp)];rfl
 obtain⟨l,e1,hl,hm⟩: ∃l,pz1e fuel t (b:Int)=some l∧l.length≤f.blocks.length∧ ∀d:Nat,(d:Int)∈l↔Dm (EE f) d b:=by
  unfold pz1e
  by_cases mb:b∈w
  ·have rb:=(yV hP).2 mb
   refine Or.elim (zj (ρ:=List Int) (fun s:Int×List Int=>(∃x:Nat,s.1=x∧Rb (EE f) x∧s.2.length+od w x≤od w b∧ ∀d:Nat,Dm (EE f) d b↔(d:Int)∈s.2∨Dm (EE f) d x)∨(s.1= -1∧s.2.length≤od w b+1∧ ∀d:Nat,Dm (EE f) d b↔(d:Int)∈s.2))
    (fun s=>s.2.length≤od w b+1∧ ∀d:Nat,Dm (EE f) d b↔(d:Int)∈s.2) (fun _=>False) (fun s=>if s.1= -1 then 0 else od w s.1.toNat+1) (fun s=>pz1d fuel t s.1 s.2) ?_ fuel ((b:Int),[])
    (.inl ⟨b,rfl,rb,by simp,fun d=>by simp⟩) ?_) ?_ ?_
   rotate_right
   ·rintro⟨v,_,h⟩;exact h.elim
   ·rintro⟨_,out⟩ h
    rcases h with ⟨x,rfl,rx,ho,hd⟩|⟨rfl,ho,hd⟩
    ·left
     show ∃s',pz1d fuel t (x:Int) out=some (.n s')∧_
     simp only at ho hd
     have mx:=(yV hP).1 rx
     have xl:=rb_lt hP hn h0 rx
     have bl:=od_lt hP mb
     unfold pz1d pz1c
     rw[in_dom hn hT xl]
     have ha:app out [(x:Int)]=some (out++[(x:Int)]):=kV (by simp;omega)
     simp only[mx,decide_true,Option.bind_some,if_true,ha,Bool.not_true,Bool.false_eq_true,if_false]
     by_cases x0:x=0
     ·subst x0
      have hz:idx t.idom ((0:Nat):Int)=some (-1):=zS hT.zero
      simp only[hz,Option.bind_some]
      refine⟨(-1,out++[((0:Nat):Int)]),rfl,.inr ⟨rfl,by simp;omega,fun d=>?_⟩,by simp⟩
      rw[hd d,List.mem_append,List.mem_singleton]
      refine or_congr Iff.rfl ⟨fun h=>by rw[h.root],fun h=>?_⟩
      have:d=0:=by omega
      subst this
      exact Dm.self (.one trivial)
     ·obtain⟨c,k1,k2,k3,k4⟩:=hT.at' x rx x0
      simp only[zS k1,Option.bind_some]
      refine⟨((c:Int),out++[(x:Int)]),rfl,.inl ⟨c,rfl,k2,by simp;omega,fun d=>?_⟩,?_⟩
      ·rw[hd d,List.mem_append,List.mem_singleton,or_assoc]
       refine or_congr Iff.rfl ?_
       by_cases e:d=x
       ·subst e;exact⟨fun _=> .inl rfl,fun _=>Dm.self rx⟩
       ·rw[k4 d e]
        exact⟨.inr,fun h=>h.resolve_left fun q=>e (by omega)⟩
      ·simp only
       rw[if_neg (by omega),if_neg (by omega)]
       simpa using k3
    ·right;left
     refine⟨(-1,out),?_,ho,hd⟩
     show pz1d fuel t (-1) out=_
     unfold pz1d
     simp[out0]
   ·have:=od_lt hP mb
    simp only
    rw[if_neg (by omega)]
    simp;omega
   ·rintro⟨⟨z,out⟩,h1,ho,hd⟩
    have:=od_lt hP mb
    simp only[h1,bindE]
    exact⟨out,rfl,by simp only at ho;omega,fun d=>(hd d).symm⟩
  ·refine⟨[],?_,by simp,fun d=>⟨fun h=>by simp at h,fun h=>absurd ((yV hP).1 h.1) mb⟩⟩
   obtain⟨m,rfl⟩: ∃m,fuel=m+1:=⟨fuel-1,by omega⟩
   rw[loopE]
   unfold pz1d
   rw[in_dom hn hT hb]
   simp[mb,bindE]
 unfold pz1f
 rw[e1,Option.bind_some,in_sl (by omega) (by omega)]
 exact⟨_,rfl,by simpa using hm a⟩
end is
end Go.Proofs.Ytoojnagdenoknaa.PL
set_option linter.unusedVariables false
set_option linter.unusedSimpArgs false
namespace Go.Proofs.Ytoojnagdenoknaa.PL
open Go
def mkM(n k:Nat):Nat:=if n<64*k+64 then 2^(n-64*k)-1 else 18446744073709551615
theorem mkM_lt(n k:Nat):mkM n k<18446744073709551616:=by
 unfold mkM
 split
 ·have h2:2^(n-64*k)<2^64:=Nat.pow_lt_pow_right (by decide) (by omega)
  have:(2:Nat)^64=18446744073709551616:=by decide
  omega
 ·omega
theorem mkM_bit(n k i:Nat)(hi:i<64):(mkM n k).testBit i=decide (64*k+i<n):=by
 unfold mkM
 split
 ·rw[Nat.testBit_two_pow_sub_one]
  simp only[decide_eq_decide];omega
 ·rw[show(18446744073709551615:Nat)=2^64-1 by decide,Nat.testBit_two_pow_sub_one]
  simp only[decide_eq_decide];omega
theorem mask_ok{s:zC}{n:Nat}(hs:s.n=(n:Int))(hn:n≤4294967296){k:Nat}(hk:k<(n+63)/64)(fuel:Nat):
  pz1l fuel s (k:Int)=some ((mkM n k:Nat):Int):=by
 unfold pz1l
 rw[hs,yP (x:=(k:Int)*64) (by omega) (by omega),yP (x:=(n:Int)-(k:Int)*64) (by omega) (by omega)]
 unfold mkM
 by_cases c:n<64*k+64
 ·have hl:(n:Int)-(k:Int)*64=((n-64*k:Nat):Int):=by omega
  have hlt:n-64*k<64:=by omega
  have h2:2^(n-64*k)<2^64:=Nat.pow_lt_pow_right (by decide) hlt
  have h1:0<2^(n-64*k):=Nat.pow_pos (by decide)
  have h64:(2:Nat)^64=18446744073709551616:=by decide
  rw[hl,if_pos (by simp;omega),shl_one hlt,if_pos c]
  simp only[Option.bind_some]
  congr 1
  generalize 2^(n-64*k)=p at h1 h2
  rw[show((p:Nat):Int)-1=((p-1:Nat):Int) by omega]
  exact wrapu (by omega)
 ·rw[if_neg (by simp;omega),if_neg c];rfl
def nw(s o:zC)(n i:Nat):Nat:=((s.words[i]?.getD 0).toNat&&&(o.words[i]?.getD 0).toNat)&&&mkM n i
theorem nw_lt(s o:zC)(n i:Nat):nw s o n i<18446744073709551616:=Nat.and_lt_two_pow (n:=64) _ (mkM_lt n i)
theorem and_ok{s o:zC}{n:Nat}(hV:bV s n)(hO:bV o n)(hn:n≤4294967296){fuel:Nat}(hf:n+1<fuel):
  ∃b s',pz1r fuel s o=some (b,s')∧bV s' n∧(∀j,bH s' j=(bH s j&&bH o j&&decide (j<n)))∧(b=true→ ∃j,j<64*((n+63)/64)∧bH s' j≠bH s j)∧(b=false→s'=s):=by
 unfold pz1r pz1q
 have hL:=hV.2.1
 have hM:=hO.2.1
 have key:=zj (ρ:=Bool×zC) (fun q:List Int×Int×Bool=> ∃k:Nat,q.2.1=k∧k≤(n+63)/64∧q.1.length=(n+63)/64∧(∀i,q.1[i]?=if i<k then some (nw s o n i:Int) else s.words[i]?)∧(q.2.2=true↔ ∃i,i<k∧some (nw s o n i:Int)≠s.words[i]?))
  (fun q=>q.1.length=(n+63)/64∧(∀i,i<(n+63)/64→q.1[i]?=some (nw s o n i:Int))∧(q.2.2=true↔ ∃i,i<(n+63)/64∧some (nw s o n i:Int)≠s.words[i]?)) (fun _=>False) (fun q=>(n+63)/64-q.2.1.toNat)
  (fun q=>pz1p fuel s o q.1 q.2.1 q.2.2) (by
   rintro⟨c,x,ch⟩ ⟨k,hx,hk,hlen,hc,hch⟩
   simp only at hx hlen hc hch
   subst hx
   show(∃s',pz1p fuel s o c (k:Int) ch=some (.n s')∧_)∨(∃s',pz1p fuel s o c (k:Int) ch=some (.b s')∧_)∨_
   unfold pz1p
   rw[hL,hM]
   by_cases h:k<(n+63)/64
   ·left
    have hlt:(k:Int)<(((n+63)/64:Nat):Int):=by omega
    obtain⟨w,hw⟩:=getAt (xs:=s.words) (i:=k) (by omega)
    obtain⟨w0,w1⟩:=hV.2.2 w (List.mem_of_getElem? hw)
    obtain⟨a,rfl⟩:=Int.eq_ofNat_of_zero_le w0
    obtain⟨v,hv⟩:=getAt (xs:=o.words) (i:=k) (by omega)
    obtain⟨v0,v1⟩:=hO.2.2 v (List.mem_of_getElem? hv)
    obtain⟨b,rfl⟩:=Int.eq_ofNat_of_zero_le v0
    have ha:a<18446744073709551616:=by omega
    have hb:b<18446744073709551616:=by omega
    have hck:c[k]?=some (a:Int):=by rw[hc k,if_neg (by omega),hw]
    have hab:a&&&b<18446744073709551616:=Nat.and_lt_two_pow (n:=64) a hb
    have hnw:nw s o n k=a&&&b&&&mkM n k:=by simp[nw,hw,hv]
    have e1:=band_nat ha hb
    have e2:=band_nat hab (mkM_lt n k)
    rw[←hnw] at e2
    have hset:setI c (k:Int) ((nw s o n k:Nat):Int)=some (c.set k ((nw s o n k:Nat):Int)):=yJ (by omega)
    simp only[hlt,decide_true,if_true,zS hck,Option.bind_some,zS hv,pz1k,mask_ok (s:=⟨s.n,c⟩) hV.1 hn h fuel,e1,e2,hset]
    refine⟨_,rfl,⟨k+1,wrap1 (by omega),by omega,by simp;omega,?_,?_⟩,?_⟩
    ·intro i
     show(c.set k ((nw s o n k:Nat):Int))[i]?=_
     by_cases e:i=k
     ·subst e;rw[List.getElem?_set_self (by omega),if_pos (by omega)]
     ·rw[List.getElem?_set_ne (by omega),hc i]
      by_cases e2:i<k
      ·rw[if_pos e2,if_pos (by omega)]
      ·rw[if_neg e2,if_neg (by omega)]
    ·show(ch||decide (((nw s o n k:Nat):Int)≠(a:Int)))=true↔_
     rw[Bool.or_eq_true,hch,decide_eq_true_eq]
     constructor
     ·rintro(⟨i,h1,h2⟩|h1)
      ·exact⟨i,by omega,h2⟩
      ·exact⟨k,by omega,by rw[hw];simpa using h1⟩
     ·rintro⟨i,h1,h2⟩
      by_cases e:i=k
      ·subst e;rw[hw] at h2;exact .inr (by simpa using h2)
      ·exact .inl ⟨i,by omega,h2⟩
    ·show(n+63)/64-(IntKind.i64.wrap ((k:Int)+1)).toNat<(n+63)/64-((k:Int)).toNat
     rw[wrap1 (by omega)];omega
   ·right;left
    have hlt: ¬(k:Int)<(((n+63)/64:Nat):Int):=by omega
    simp only[hlt,decide_false,Bool.false_eq_true,if_false]
    have hkL:k=(n+63)/64:=by omega
    refine⟨_,rfl,hlen,fun i hi=>?_,?_⟩
    ·show c[i]?=_
     rw[hc i,if_pos (by omega)]
    ·show ch=true↔_
     rw[hch,hkL]) fuel (s.words,0,false) ⟨0,rfl,by omega,hL,fun i=>by simp,by simp⟩ (by simp;omega)
 rcases key with ⟨⟨c,x,ch⟩,k1,k2,k3,k4⟩|⟨v,_,h⟩
 ·simp only at k2 k3 k4
  refine⟨ch,⟨s.n,c⟩,by rw[k1];rfl,⟨hV.1,k2,?_⟩,?_,?_,?_⟩
  ·intro w hw
   obtain⟨i,hi⟩:=List.getElem?_of_mem hw
   have hi':=(List.getElem?_eq_some_iff.1 hi).1
   have hi2:i<c.length:=hi'
   have h2:c[i]?=some w:=hi
   rw[k3 i (by omega)] at h2
   have:=nw_lt s o n i
   cases h2
   omega
  ·intro j
   unfold bH
   show(match c[j/64]? with|some w=>w.toNat.testBit (j%64)|none=>false)=_
   by_cases hj:j/64<(n+63)/64
   ·obtain⟨w,hw⟩:=getAt (xs:=s.words) (i:=j/64) (by omega)
    obtain⟨v,hv⟩:=getAt (xs:=o.words) (i:=j/64) (by omega)
    rw[k3 _ hj]
    simp only[hw,hv,Int.toNat_natCast]
    unfold nw
    rw[hw,hv,Nat.testBit_and,Nat.testBit_and,mkM_bit _ _ _ (by omega),show 64*(j/64)+j%64=j by omega]
    rfl
   ·rw[List.getElem?_eq_none (by omega),List.getElem?_eq_none (by omega)]
    rfl
  ·intro h
   obtain⟨i,hi,h2⟩:=k4.1 h
   obtain⟨w,hw⟩:=getAt (xs:=s.words) (i:=i) (by omega)
   obtain⟨w0,w1⟩:=hV.2.2 w (List.mem_of_getElem? hw)
   obtain⟨a,rfl⟩:=Int.eq_ofNat_of_zero_le w0
   rw[hw] at h2
   have hne:nw s o n i≠a:=by
    intro e;rw[e] at h2;exact h2 rfl
   have: ∃b,(nw s o n i).testBit b≠a.testBit b:=by
    apply Classical.byContradiction
    intro hno
    exact hne (Nat.eq_of_testBit_eq fun b=>Classical.byContradiction fun hb=>hno ⟨b,hb⟩)
   obtain⟨b,hb⟩:=this
   have hb64:b<64:=by
    apply Classical.byContradiction
    intro hge
    have h64:(18446744073709551616:Nat)≤2^b:=by
     rw[show(18446744073709551616:Nat)=2^64 by decide]
     exact Nat.pow_le_pow_right (by decide) (by omega)
    have:=nw_lt s o n i
    rw[Nat.testBit_lt_two_pow (by omega),Nat.testBit_lt_two_pow (by omega)] at hb
    exact hb rfl
   refine⟨64*i+b,by omega,?_⟩
   unfold bH
   show(match c[(64*i+b)/64]? with|some w=>w.toNat.testBit ((64*i+b)%64)|none=>false)≠_
   rw[show(64*i+b)/64=i by omega,show(64*i+b)%64=b by omega,k3 i hi,hw]
   simpa using hb
  ·intro h
   have:c=s.words:=by
    apply List.ext_getElem?
    intro i
    by_cases hi:i<(n+63)/64
    ·rw[k3 i hi]
     apply Classical.byContradiction
     intro hne
     have:=k4.2 ⟨i,hi,hne⟩
     rw[h] at this;cases this
    ·rw[List.getElem?_eq_none (by omega),List.getElem?_eq_none (by omega)]
   rw[this]
 ·exact h.elim
theorem copy_ok{s:zC}{n:Nat}(hV:bV s n)(hn:n≤4294967296)(fuel:Nat):pz26 fuel s=some s:=by
 unfold pz26 pz25
 rw[kV (by have:=hV.2.1;simp;omega)]
 rfl
theorem of_ok{n:Nat}(hn:n≤4294967){l:List Int}(hl:l.length≤4294967){fuel:Nat}(hf:l.length+1<fuel): ∃s,pz1h fuel (n:Int) l=some s∧bV s n∧ ∀j,bH s j=(decide (j<n)&&decide ((j:Int)∈l)):=by
 unfold pz1h
 obtain⟨s0,h1,h2,h3⟩:=new_ok (n:=n) (by omega) fuel
 rw[h1]
 simp only[Option.bind_some]
 have key:=zj (ρ:=zC) (fun q:Int×zC=> ∃k:Nat,q.1=k∧k≤l.length∧bV q.2 n∧ ∀j,bH q.2 j=(decide (j<n)&&decide ((j:Int)∈l.take k))) (fun q=>bV q.2 n∧ ∀j,bH q.2 j=(decide (j<n)&&decide ((j:Int)∈l))) (fun _=>False) (fun q=>l.length-q.1.toNat)
  (fun q=>pz1g fuel l q.1 q.2) (by
   rintro⟨x,s⟩ ⟨k,hx,hk,hv,hb⟩
   simp only at hx hv hb
   subst hx
   show(∃s',pz1g fuel l (k:Int) s=some (.n s')∧_)∨(∃s',pz1g fuel l (k:Int) s=some (.b s')∧_)∨_
   unfold pz1g
   by_cases h:k<l.length
   ·left
    have hlt:(k:Int)<(l.length:Int):=by omega
    obtain⟨z,hz⟩:=getAt (xs:=l) (i:=k) h
    have htk: ∀j:Nat,((j:Int)∈l.take (k+1))↔((j:Int)∈l.take k∨(j:Int)=z):=by
     intro j
     rw[List.take_add_one,hz]
     simp
    have hm:l.length-(IntKind.i64.wrap ((k:Int)+1)).toNat<l.length-((k:Int)).toNat:=by rw[wrap1 (by omega)];omega
    rcases add_ok hv (by omega) fuel z with ⟨e,hno⟩|⟨k',s',e0,hk',hf',e,hv',hb'⟩
    ·simp only[hlt,decide_true,if_true,zS hz,e,Option.bind_some]
     refine⟨_,rfl,⟨k+1,wrap1 (by omega),by omega,hv,fun j=>?_⟩,hm⟩
     show bH s j=_
     by_cases c:(j:Int)=z
     ·by_cases c2:j<n
      ·rw[hno j c.symm c2,decide_eq_true c2,decide_eq_true ((htk j).2 (.inr c))];rfl
      ·rw[hb j];simp[c2]
     ·rw[hb j];simp[htk,c]
    ·subst e0
     simp only[hlt,decide_true,if_true,zS hz,e,Option.bind_some]
     refine⟨_,rfl,⟨k+1,wrap1 (by omega),by omega,hv',fun j=>?_⟩,hm⟩
     show bH s' j=_
     rw[hb' j,hb j]
     by_cases c2:j=k'
     ·subst c2;simp[hk',htk]
     ·have:(j:Int)≠(k':Int):=by omega
      simp[c2,htk,this]
   ·right;left
    have hlt: ¬(k:Int)<(l.length:Int):=by omega
    simp only[hlt,decide_false,Bool.false_eq_true,if_false]
    refine⟨_,rfl,hv,fun j=>?_⟩
    show bH s j=_
    rw[hb j,List.take_of_length_le (by omega)]) fuel (0,s0) ⟨0,rfl,by omega,h2,fun j=>by rw[h3 j];simp⟩ (by simp;omega)
 rcases key with ⟨⟨x,s⟩,k1,k2,k3⟩|⟨v,_,h⟩
 ·exact⟨s,by rw[k1];rfl,k2,k3⟩
 ·exact h.elim
end Go.Proofs.Ytoojnagdenoknaa.PL
set_option linter.unusedVariables false
set_option linter.unusedSimpArgs false
namespace Go.Proofs.Ytoojnagdenoknaa.PL
open Go
def ow(s o:zC)(n i:Nat):Nat:=((s.words[i]?.getD 0).toNat|||(o.words[i]?.getD 0).toNat)&&&mkM n i
theorem ow_lt(s o:zC)(n i:Nat):ow s o n i<18446744073709551616:=Nat.and_lt_two_pow (n:=64) _ (mkM_lt n i)
theorem or_ok{s o:zC}{n:Nat}(hV:bV s n)(hO:bV o n)(hn:n≤4294967296){fuel:Nat}(hf:n+1<fuel):
  ∃b s',pz1v fuel s o=some (b,s')∧bV s' n∧(∀j,bH s' j=((bH s j||bH o j)&&decide (j<n)))∧(b=true→ ∃j,j<64*((n+63)/64)∧bH s' j≠bH s j)∧(b=false→s'=s):=by
 unfold pz1v pz1u
 have hL:=hV.2.1
 have hM:=hO.2.1
 have key:=zj (ρ:=Bool×zC) (fun q:List Int×Int×Bool=> ∃k:Nat,q.2.1=k∧k≤(n+63)/64∧q.1.length=(n+63)/64∧(∀i,q.1[i]?=if i<k then some (ow s o n i:Int) else s.words[i]?)∧(q.2.2=true↔ ∃i,i<k∧some (ow s o n i:Int)≠s.words[i]?))
  (fun q=>q.1.length=(n+63)/64∧(∀i,i<(n+63)/64→q.1[i]?=some (ow s o n i:Int))∧(q.2.2=true↔ ∃i,i<(n+63)/64∧some (ow s o n i:Int)≠s.words[i]?)) (fun _=>False) (fun q=>(n+63)/64-q.2.1.toNat)
  (fun q=>pz1t fuel s o q.1 q.2.1 q.2.2) (by
   rintro⟨c,x,ch⟩ ⟨k,hx,hk,hlen,hc,hch⟩
   simp only at hx hlen hc hch
   subst hx
   show(∃s',pz1t fuel s o c (k:Int) ch=some (.n s')∧_)∨(∃s',pz1t fuel s o c (k:Int) ch=some (.b s')∧_)∨_
   unfold pz1t
   rw[hL,hM]
   by_cases h:k<(n+63)/64
   ·left
    have hlt:(k:Int)<(((n+63)/64:Nat):Int):=by omega
    obtain⟨w,hw⟩:=getAt (xs:=s.words) (i:=k) (by omega)
    obtain⟨w0,w1⟩:=hV.2.2 w (List.mem_of_getElem? hw)
    obtain⟨a,rfl⟩:=Int.eq_ofNat_of_zero_le w0
    obtain⟨v,hv⟩:=getAt (xs:=o.words) (i:=k) (by omega)
    obtain⟨v0,v1⟩:=hO.2.2 v (List.mem_of_getElem? hv)
    obtain⟨b,rfl⟩:=Int.eq_ofNat_of_zero_le v0
    have ha:a<18446744073709551616:=by omega
    have hb:b<18446744073709551616:=by omega
    have hck:c[k]?=some (a:Int):=by rw[hc k,if_neg (by omega),hw]
    have hab:a|||b<18446744073709551616:=Nat.or_lt_two_pow (n:=64) ha hb
    have hnw:ow s o n k=(a|||b)&&&mkM n k:=by unfold ow;rw[hw,hv];rfl
    have e1:=bor_nat ha hb
    have e2:=band_nat hab (mkM_lt n k)
    rw[←hnw] at e2
    have hset:setI c (k:Int) ((ow s o n k:Nat):Int)=some (c.set k ((ow s o n k:Nat):Int)):=yJ (by omega)
    simp only[hlt,decide_true,if_true,zS hck,Option.bind_some,zS hv,pz1s,mask_ok (s:=⟨s.n,c⟩) hV.1 hn h fuel,e1,e2,hset]
    refine⟨_,rfl,⟨k+1,wrap1 (by omega),by omega,by simp;omega,?_,?_⟩,?_⟩
    ·intro i
     show(c.set k ((ow s o n k:Nat):Int))[i]?=_
     by_cases e:i=k
     ·subst e;rw[List.getElem?_set_self (by omega),if_pos (by omega)]
     ·rw[List.getElem?_set_ne (by omega),hc i]
      by_cases e2:i<k
      ·rw[if_pos e2,if_pos (by omega)]
      ·rw[if_neg e2,if_neg (by omega)]
    ·show(ch||decide (((ow s o n k:Nat):Int)≠(a:Int)))=true↔_
     rw[Bool.or_eq_true,hch,decide_eq_true_eq]
     constructor
     ·rintro(⟨i,h1,h2⟩|h1)
      ·exact⟨i,by omega,h2⟩
      ·exact⟨k,by omega,by rw[hw];simpa using h1⟩
     ·rintro⟨i,h1,h2⟩
      by_cases e:i=k
      ·subst e;rw[hw] at h2;exact .inr (by simpa using h2)
      ·exact .inl ⟨i,by omega,h2⟩
    ·show(n+63)/64-(IntKind.i64.wrap ((k:Int)+1)).toNat<(n+63)/64-((k:Int)).toNat
     rw[wrap1 (by omega)];omega
   ·right;left
    have hlt: ¬(k:Int)<(((n+63)/64:Nat):Int):=by omega
    simp only[hlt,decide_false,Bool.false_eq_true,if_false]
    have hkL:k=(n+63)/64:=by omega
    refine⟨_,rfl,hlen,fun i hi=>?_,?_⟩
    ·show c[i]?=_
     rw[hc i,if_pos (by omega)]
    ·show ch=true↔_
     rw[hch,hkL]) fuel (s.words,0,false) ⟨0,rfl,by omega,hL,fun i=>by simp,by simp⟩ (by simp;omega)
 rcases key with ⟨⟨c,x,ch⟩,k1,k2,k3,k4⟩|⟨v,_,h⟩
 ·simp only at k2 k3 k4
  refine⟨ch,⟨s.n,c⟩,by rw[k1];rfl,⟨hV.1,k2,?_⟩,?_,?_,?_⟩
  ·intro w hw
   obtain⟨i,hi⟩:=List.getElem?_of_mem hw
   have hi':=(List.getElem?_eq_some_iff.1 hi).1
   have hi2:i<c.length:=hi'
   have h2:c[i]?=some w:=hi
   rw[k3 i (by omega)] at h2
   have:=ow_lt s o n i
   cases h2
   omega
  ·intro j
   unfold bH
   show(match c[j/64]? with|some w=>w.toNat.testBit (j%64)|none=>false)=_
   by_cases hj:j/64<(n+63)/64
   ·obtain⟨w,hw⟩:=getAt (xs:=s.words) (i:=j/64) (by omega)
    obtain⟨v,hv⟩:=getAt (xs:=o.words) (i:=j/64) (by omega)
    rw[k3 _ hj]
    simp only[hw,hv,Int.toNat_natCast]
    unfold ow
    rw[hw,hv,Nat.testBit_and,Nat.testBit_or,mkM_bit _ _ _ (by omega),show 64*(j/64)+j%64=j by omega]
    rfl
   ·rw[List.getElem?_eq_none (by omega),List.getElem?_eq_none (by omega),List.getElem?_eq_none (by omega)]
    rfl
  ·intro h
   obtain⟨i,hi,h2⟩:=k4.1 h
   obtain⟨w,hw⟩:=getAt (xs:=s.words) (i:=i) (by omega)
   obtain⟨w0,w1⟩:=hV.2.2 w (List.mem_of_getElem? hw)
   obtain⟨a,rfl⟩:=Int.eq_ofNat_of_zero_le w0
   rw[hw] at h2
   have hne:ow s o n i≠a:=by
    intro e;rw[e] at h2;exact h2 rfl
   have: ∃b,(ow s o n i).testBit b≠a.testBit b:=by
    apply Classical.byContradiction
    intro hno
    exact hne (Nat.eq_of_testBit_eq fun b=>Classical.byContradiction fun hb=>hno ⟨b,hb⟩)
   obtain⟨b,hb⟩:=this
   have hb64:b<64:=by
    apply Classical.byContradiction
    intro hge
    have h64:(18446744073709551616:Nat)≤2^b:=by
     rw[show(18446744073709551616:Nat)=2^64 by decide]
     exact Nat.pow_le_pow_right (by decide) (by omega)
    have:=ow_lt s o n i
    rw[Nat.testBit_lt_two_pow (by omega),Nat.testBit_lt_two_pow (by omega)] at hb
    exact hb rfl
   refine⟨64*i+b,by omega,?_⟩
   unfold bH
   show(match c[(64*i+b)/64]? with|some w=>w.toNat.testBit ((64*i+b)%64)|none=>false)≠_
   rw[show(64*i+b)/64=i by omega,show(64*i+b)%64=b by omega,k3 i hi,hw]
   simpa using hb
  ·intro h
   have:c=s.words:=by
    apply List.ext_getElem?
    intro i
    by_cases hi:i<(n+63)/64
    ·rw[k3 i hi]
     apply Classical.byContradiction
     intro hne
     have:=k4.2 ⟨i,hi,hne⟩
     rw[h] at this;cases this
    ·rw[List.getElem?_eq_none (by omega),List.getElem?_eq_none (by omega)]
   rw[this]
 ·exact h.elim
end Go.Proofs.Ytoojnagdenoknaa.PL
set_option linter.unusedVariables false
set_option linter.unusedSectionVars false
set_option linter.unusedSimpArgs false
namespace Go.Proofs.Ytoojnagdenoknaa.PL
open Go
section away
variable {f:Fnc} {fuel:Nat} {g:zI} (hn:fOk f) (hf:17592186044416<fuel)
 (hg:g.succ.length=f.blocks.length) (h2: ∀j:Nat,j<f.blocks.length→g.succ[j]?=some (TT f j)) (h3: ∀j:Nat,j<f.blocks.length→g.pred[j]?=some (PP f f.blocks.length j))
structure AW (f:Fnc) (to wo:Nat) (s:zC) (ws:List Nat) (m:Nat):Prop where
 v:bV s f.blocks.length
 lt: ∀x∈ws,x<f.blocks.length∧bH s x=true
 ok: ∀j:Nat,j<f.blocks.length→bH s j=true→Path (EE f) (okk wo) j to
 me:m=cS (bH s) (fun _=>2) f.blocks.length+ws.length
include hn in
theorem away_1{to wo:Nat}{s:zC}{ws:List Nat}{m i:Nat}(h:AW f to wo s ws m)(hi:i<f.blocks.length)(hp:okk wo i→Path (EE f) (okk wo) i to)(hw:ws.length≤1048576*2):
  ∃s' ws' m',pz1i fuel (i:Int) (wo:Int) s (embN ws)=some (s',embN ws')∧AW f to wo s' ws' m'∧m'≤m∧(∀j:Nat,bH s j=true→bH s' j=true)∧(okk wo i→bH s' i=true)∧(∀x∈ws,x∈ws')∧ ∀j:Nat,bH s' j=true→bH s j=true∨j∈ws':=by
 have hn1:=hn.1
 unfold pz1i
 by_cases c:i=wo
 ·subst c
  refine⟨s,ws,m,by simp,h,Nat.le_refl _,fun j h=>h,fun h=>absurd rfl h,fun x h=>h,fun j h=> .inl h⟩
 ·have hk:okk wo i:=by unfold okk;omega
  have c': ¬((i:Int)=(wo:Int)):=by omega
  simp only[ne_eq,c',not_false_eq_true,decide_true,if_true]
  rcases add_ok h.v (by omega) fuel (i:Int) with ⟨k1,k2⟩|⟨k,s1,k1,_,k3,k4,k5,k6⟩
  ·simp only[k1,Option.bind_some,Bool.false_eq_true,if_false]
   exact⟨s,ws,m,rfl,h,Nat.le_refl _,fun j h=>h,fun _=>k2 i rfl hi,fun x h=>h,fun j h=> .inl h⟩
  ·have:k=i:=by omega
   subst this
   have ha:app (embN ws) [(k:Int)]=some (embN (ws++[k])):=by rw[kV (by simp[embN];omega)];simp[embN]
   simp only[k4,Option.bind_some,if_true,ha]
   have hc:=cS_add (w:=fun _=>2) k3 k6 f.blocks.length hi
   refine⟨s1,ws++[k],_,rfl,⟨k5,fun x hx=>?_,fun j hj hb=>?_,rfl⟩,?_,fun j hj=>by rw[k6,hj];rfl,fun _=>by rw[k6];simp,fun x hx=>List.mem_append_left _ hx,fun j hj=>?_⟩
   ·rcases List.mem_append.1 hx with hx|hx
    ·exact⟨(h.lt x hx).1,by rw[k6,(h.lt x hx).2];rfl⟩
    ·rw[List.mem_singleton.1 hx];exact⟨hi,by rw[k6];simp⟩
   ·rw[k6] at hb
    simp only[Bool.or_eq_true,decide_eq_true_eq] at hb
    rcases hb with hb|rfl
    ·exact h.ok j hj hb
    ·exact hp hk
   ·rw[h.me];simp;omega
   ·rw[k6] at hj
    simp only[Bool.or_eq_true,decide_eq_true_eq] at hj
    rcases hj with hj|rfl
    ·exact .inl hj
    ·right;simp
include hn hf hg h3 in
theorem away_ok{to wo:Nat}(ht:to<f.blocks.length): ∃s,pz1o fuel g (to:Int) (wo:Int)=some s∧bV s f.blocks.length∧ ∀j:Nat,j<f.blocks.length→(bH s j=true↔Path (EE f) (okk wo) j to):=by
 have hn1:=hn.1
 obtain⟨s0,e0,hV0,hB0⟩:=new_ok (n:=f.blocks.length) (by omega) fuel
 have hA0:AW f to wo s0 [] (cS (bH s0) (fun _=>2) f.blocks.length+0):=⟨hV0,by simp,fun j _ hb=>(by rw[hB0] at hb;cases hb),rfl⟩
 obtain⟨s1,ws1,m1,e1,hA1,hm1,_,hto,_,hnew⟩:=away_1 (fuel:=fuel) hn hA0 ht (fun k=> .one k) (by simp)
 have hcs: ∀s:zC,cS (bH s) (fun _=>2) f.blocks.length≤f.blocks.length*2:=fun s=>cS_le (fun _=>Nat.le_refl _) _
 have hm0:=hcs s0
 unfold pz1o pzh
 have e1':pz1i fuel (to:Int) (wo:Int) s0 []=some (s1,embN ws1):=e1
 simp only[hg,Option.bind_some,e0,e1']
 refine Or.elim (zj (ρ:=zC) (fun s:zC×List Int=> ∃ws m,s.2=embN ws∧m≤f.blocks.length*2∧AW f to wo s.1 ws m∧(okk wo to→bH s.1 to=true)∧ ∀x:Nat,x<f.blocks.length→bH s.1 x=true→x∉ws→ ∀p,EE f p x→okk wo p→bH s.1 p=true)
  (fun s=>bV s.1 f.blocks.length∧ ∀j:Nat,j<f.blocks.length→(bH s.1 j=true↔Path (EE f) (okk wo) j to)) (fun _=>False) (fun s=>cS (bH s.1) (fun _=>2) f.blocks.length+s.2.length) (fun s=>pz1n fuel g (wo:Int) s.1 s.2) ?_ fuel (s1,embN ws1)
  ⟨ws1,m1,rfl,by omega,hA1,hto,fun x hx hb hnx=>?_⟩ ?_) ?_ ?_
 rotate_right
 ·rintro⟨v,_,h⟩;exact h.elim
 ·rintro⟨s,_⟩ ⟨ws,m,rfl,hm,hA,hT,hC⟩
  simp only at hA hT hC
  show(∃s',pz1n fuel g (wo:Int) s (embN ws)=some (.n s')∧_)∨(∃s',pz1n fuel g (wo:Int) s (embN ws)=some (.b s')∧_)∨_
  unfold pz1n
  rcases List.eq_nil_or_concat ws with rfl|⟨l,i,rfl⟩
  ·right;left
   refine⟨(s,[]),by simp[embN],hA.v,fun j hj=>⟨hA.ok j hj,fun p=>?_⟩⟩
   have hto:=hT p.lst
   refine p.back (C:=fun j=>bH s j=true) (fun a b hb e ha=>hC b (TT_lt hn e) hb (by simp) a e ha) hto
  ·left
   rw[List.concat_eq_append] at hA hC ⊢
   have hi:=(hA.lt i (by simp)).1
   have hib:=(hA.lt i (by simp)).2
   have hme:=hA.me
   simp only[List.length_append,List.length_cons,List.length_nil] at hme
   have hem:embN (l++[i])=embN l++[(i:Int)]:=by simp[embN]
   have hll:(embN l).length=l.length:=by simp[embN]
   have tw:=top_wrap (embN l) (i:Int) (by rw[hll];omega)
   have hpl:=PP_len f f.blocks.length i
   rw[hem,if_pos (by simp),tw,top_idx]
   simp only[Option.bind_some,top_cut,gpred_ok hn hg h3 hi]
   have hA':AW f to wo s l (m-1):=⟨hA.v,fun x hx=>hA.lt x (List.mem_append_left _ hx),hA.ok,by omega⟩
   obtain⟨z,s2,ws2,m2,k1,kA,km,kmono,kall,ksub,knew⟩: ∃(z:Int) (s2:zC) (ws2:List Nat) (m2:Nat),loopE fuel (fun s=>pz1m fuel (wo:Int) (PP f f.blocks.length i) s.1 s.2.1 s.2.2) (0,s,embN l)=some (.n (z,s2,embN ws2))∧AW f to wo s2 ws2 m2∧m2≤m-1∧(∀j:Nat,bH s j=true→bH s2 j=true)∧
     (∀p:Nat,(p:Int)∈PP f f.blocks.length i→okk wo p→bH s2 p=true)∧(∀x∈l,x∈ws2)∧ ∀j:Nat,bH s2 j=true→bH s j=true∨j∈ws2:=by
    refine Or.elim (zj (ρ:=Ex (zC×List Int) zC) (fun q:Int×zC×List Int=> ∃(k:Nat) (ws2:List Nat) (m2:Nat),q.1=k∧k≤(PP f f.blocks.length i).length∧q.2.2=embN ws2∧AW f to wo q.2.1 ws2 m2∧m2≤m-1∧(∀j:Nat,bH s j=true→bH q.2.1 j=true)∧
     (∀p:Nat,(p:Int)∈(PP f f.blocks.length i).take k→okk wo p→bH q.2.1 p=true)∧(∀x∈l,x∈ws2)∧ ∀j:Nat,bH q.2.1 j=true→bH s j=true∨j∈ws2)
     (fun q=> ∃(ws2:List Nat) (m2:Nat),q.2.2=embN ws2∧AW f to wo q.2.1 ws2 m2∧m2≤m-1∧(∀j:Nat,bH s j=true→bH q.2.1 j=true)∧
     (∀p:Nat,(p:Int)∈PP f f.blocks.length i→okk wo p→bH q.2.1 p=true)∧(∀x∈l,x∈ws2)∧ ∀j:Nat,bH q.2.1 j=true→bH s j=true∨j∈ws2) (fun _=>False) (fun q=>(PP f f.blocks.length i).length-q.1.toNat)
     (fun s=>pz1m fuel (wo:Int) (PP f f.blocks.length i) s.1 s.2.1 s.2.2) ?_ fuel (0,s,embN l) ⟨0,l,m-1,rfl,by omega,rfl,hA',Nat.le_refl _,fun j h=>h,by simp,fun x h=>h,fun j h=> .inl h⟩ (by simp;omega)) ?_ ?_
    rotate_right
    ·rintro⟨v,_,h⟩;exact h.elim
    ·rintro⟨_,s2,_⟩ ⟨k,ws2,m2,rfl,hk,rfl,kA,km,kmono,kall,ksub,knew⟩
     simp only at kA kmono kall knew
     show(∃s',pz1m fuel (wo:Int) (PP f f.blocks.length i) (k:Int) s2 (embN ws2)=some (.n s')∧_)∨(∃s',pz1m fuel (wo:Int) (PP f f.blocks.length i) (k:Int) s2 (embN ws2)=some (.b s')∧_)∨_
     unfold pz1m
     by_cases c:k<(PP f f.blocks.length i).length
     ·left
      obtain⟨y,hy⟩:=getAt c
      obtain⟨p,rfl,hpn,hpe⟩:=PP_mem.1 (List.mem_of_getElem? hy)
      have:=kA.me
      obtain⟨s3,ws3,m3,q1,q2,q3,q4,q5,q6,q7⟩:=away_1 (fuel:=fuel) hn kA hpn (fun h=> .step h hpe (hA.ok i hi hib)) (by omega)
      rw[if_pos (by simp;omega),zS hy]
      simp only[Option.bind_some,q1]
      refine⟨(((k+1:Nat):Int),s3,embN ws3),by rw[wrap1 (by omega)],⟨k+1,ws3,m3,rfl,by omega,rfl,q2,by omega,fun j h=>q4 j (kmono j h),fun p' hp' hk'=>?_,fun x hx=>q6 x (ksub x hx),fun j hj=>?_⟩,by simp;omega⟩
      ·rw[List.take_add_one,hy,Option.toList_some,List.mem_append,List.mem_singleton] at hp'
       rcases hp' with hp'|hp'
       ·exact q4 p' (kall p' hp' hk')
       ·have:p'=p:=by omega
        subst this;exact q5 hk'
      ·rcases q7 j hj with h|h
       ·rcases knew j h with h|h
        ·exact .inl h
        ·exact .inr (q6 j h)
       ·exact .inr h
     ·right;left
      rw[List.take_of_length_le (by omega)] at kall
      exact⟨((k:Int),s2,embN ws2),by rw[if_neg (by simp;omega)],ws2,m2,rfl,kA,km,kmono,kall,ksub,knew⟩
    ·rintro⟨⟨z,s2,_⟩,h1,ws2,m2,rfl,h⟩
     exact⟨z,s2,ws2,m2,h1,h⟩
   simp only[k1,bindE]
   refine⟨(s2,embN ws2),rfl,⟨ws2,m2,rfl,by omega,kA,fun h=>kmono to (hT h),fun x hx hb hnx p e hp=>?_⟩,?_⟩
   ·rcases knew x hb with h|h
    ·by_cases ex:x=i
     ·subst ex
      exact kall p (PP_mem.2 ⟨p,rfl,TT_fst e,e⟩) hp
     ·exact kmono p (hC x hx h (fun q=>by
       rcases List.mem_append.1 q with q|q
       ·exact hnx (ksub x q)
       ·exact ex (List.mem_singleton.1 q)) p e hp)
    ·exact absurd h hnx
   ·have h1:=kA.me
    simp only[List.length_append,List.length_cons,List.length_nil,hll]
    have:(embN ws2).length=ws2.length:=by simp[embN]
    omega
 ·rcases hnew x hb with h|h
  ·rw[hB0] at h;cases h
  ·exact absurd h hnx
 ·have h1:=hA1.me
  have:(embN ws1).length=ws1.length:=by simp[embN]
  simp only[this]
  omega
 ·rintro⟨⟨s,ws⟩,h1,h4,h5⟩
  simp only[h1,bindE]
  exact⟨s,rfl,h4,h5⟩
end away
section reached
variable {f:Fnc} {fuel:Nat} {g:zI} (hn:fOk f) (h0:0<f.blocks.length) (hf:17592186044416<fuel)
 (hg:g.succ.length=f.blocks.length) (h2: ∀j:Nat,j<f.blocks.length→g.succ[j]?=some (TT f j))
include hn h0 hf hg h2 in
theorem reached_ok: ∃s,pz1j fuel g=some s∧bV s f.blocks.length∧ ∀j:Nat,bH s j=true↔PT f 0 j:=by
 have hn1:=hn.1
 obtain⟨w,hor,hP,hw⟩:=order_ok hn h2 hg hf h0
 have hl:(embN w.reverse).length=w.length:=by simp[embN]
 obtain⟨s,e1,e2,e3⟩:=of_ok (n:=f.blocks.length) (by omega) (l:=embN w.reverse) (by omega) (fuel:=fuel) (by omega)
 unfold pz1j pzh
 simp only[hg,Option.bind_some,hor,e1]
 refine⟨s,rfl,e2,fun j=>?_⟩
 rw[e3 j]
 have:((j:Int)∈embN w.reverse)↔j∈w:=by
  simp only[embN,List.mem_map,List.mem_reverse]
  exact⟨fun⟨a,h1,h2⟩=>(by have:a=j:=(by omega);exact this▸h1),fun h=>⟨j,h,rfl⟩⟩
 simp only[Bool.and_eq_true,decide_eq_true_eq,this,hP.mem j]
 refine⟨fun h=>h.2,fun h=>⟨Path.closed (C:=fun j=>j<f.blocks.length) (fun a b _ e _=>TT_lt hn e) h h0,h⟩⟩
end reached
end Go.Proofs.Ytoojnagdenoknaa.PL
set_option linter.unusedVariables false
set_option linter.unusedSectionVars false
set_option linter.unusedSimpArgs false
namespace Go.Proofs.Ytoojnagdenoknaa.PL
open Go
section edges
variable {f:Fnc} {fuel:Nat} {g:zI} (hn:fOk f) (hs:f.blocks.length≤1000) (hf:17592186044416<fuel)
 (hg:g.succ.length=f.blocks.length) (h2: ∀j:Nat,j<f.blocks.length→g.succ[j]?=some (TT f j))
include hn hs hf hg h2 in
theorem edges_ok: ∃es:List (Nat×Nat),pz1a fuel g=some (es.map emb)∧(∀a b,(a,b)∈es↔EE f a b)∧es.length≤1048576000:=by
 have hn1:=hn.1
 unfold pz1a pzh
 simp only[hg,Option.bind_some]
 refine Or.elim (zj (ρ:=List (A2 Int)) (fun s:Int×List (A2 Int)=> ∃(k:Nat) (es:List (Nat×Nat)),s.1=k∧k≤f.blocks.length∧s.2=es.map emb∧(∀a b,(a,b)∈es↔a<k∧EE f a b)∧es.length≤k*1048576)
  (fun s=> ∃es:List (Nat×Nat),s.2=es.map emb∧(∀a b,(a,b)∈es↔EE f a b)∧es.length≤1048576000) (fun _=>False) (fun s=>f.blocks.length-s.1.toNat) (fun s=>pz19 fuel g (f.blocks.length:Int) s.1 s.2) ?_ fuel (0,[])
  ⟨0,[],rfl,by omega,rfl,by simp,by simp⟩ (by simp;omega)) ?_ ?_
 rotate_right
 ·rintro⟨v,_,h⟩;exact h.elim
 ·rintro⟨_,_⟩ ⟨k,es,rfl,hk,rfl,hm,hl⟩
  show(∃s',pz19 fuel g (f.blocks.length:Int) (k:Int) (es.map emb)=some (.n s')∧_)∨(∃s',pz19 fuel g (f.blocks.length:Int) (k:Int) (es.map emb)=some (.b s')∧_)∨_
  unfold pz19
  by_cases c:k<f.blocks.length
  ·left
   have htl:=TT_len hn k
   have hk1:k*1048576≤1000*1048576:=Nat.mul_le_mul_right _ (by omega)
   have hk2:(k+1)*1048576=k*1048576+1048576:=Nat.succ_mul _ _
   have hpm:=kR (TT f k)
   have hil:(isort (TT f k)).length=(TT f k).length:=hpm.length_eq
   have hsort:pz17 fuel (TT f k)=some (isort (TT f k)):=by
    unfold pz17;rw[if_pos (by omega)]
   rw[if_pos (by simp;omega)]
   simp only[gsucc_ok hn hg h2 c,Option.bind_some,hsort]
   obtain⟨z,e1⟩: ∃z:Int,loopE fuel (fun s:Int×List (A2 Int)=>pz18 fuel (k:Int) (isort (TT f k)) s.1 s.2) (0,es.map emb)=some (.n (z,(es++(isort (TT f k)).map fun t=>(k,t.toNat)).map emb)):=by
    refine Or.elim (zj (ρ:=Ex (Int×List (A2 Int)) (List (A2 Int))) (fun s:Int×List (A2 Int)=> ∃q:Nat,s.1=q∧q≤(isort (TT f k)).length∧s.2=(es++((isort (TT f k)).take q).map fun t=>(k,t.toNat)).map emb)
     (fun s=>s.2=(es++(isort (TT f k)).map fun t=>(k,t.toNat)).map emb) (fun _=>False) (fun s=>(isort (TT f k)).length-s.1.toNat) (fun s=>pz18 fuel (k:Int) (isort (TT f k)) s.1 s.2) ?_ fuel (0,es.map emb)
     ⟨0,rfl,by omega,by simp⟩ (by simp;omega)) ?_ ?_
    rotate_right
    ·rintro⟨v,_,h⟩;exact h.elim
    ·rintro⟨_,_⟩ ⟨q,rfl,hq,rfl⟩
     show(∃s',pz18 fuel (k:Int) (isort (TT f k)) (q:Int) _=some (.n s')∧_)∨(∃s',pz18 fuel (k:Int) (isort (TT f k)) (q:Int) _=some (.b s')∧_)∨_
     unfold pz18
     by_cases c2:q<(isort (TT f k)).length
     ·left
      obtain⟨y,hy⟩:=getAt c2
      have hym:y∈TT f k:=hpm.mem_iff.1 (List.mem_of_getElem? hy)
      obtain⟨y0,_⟩:=TT_in hn hym
      have ha:app ((es++((isort (TT f k)).take q).map fun t=>(k,t.toNat)).map emb) [(⟨(k:Int),y⟩:A2 Int)]=some ((es++((isort (TT f k)).take (q+1)).map fun t=>(k,t.toNat)).map emb):=by
       rw[kV (by simp;omega),List.take_add_one,hy]
       simp[emb,Int.toNat_of_nonneg y0]
      rw[if_pos (by simp;omega),zS hy]
      simp only[Option.bind_some,ha]
      exact⟨_,by rw[wrap1 (by omega)],⟨q+1,rfl,by omega,rfl⟩,by simp;omega⟩
     ·right;left
      refine⟨_,by rw[if_neg (by simp;omega)],?_⟩
      simp only
      rw[List.take_of_length_le (by omega)]
    ·rintro⟨⟨z,_⟩,h1,rfl⟩
     exact⟨z,h1⟩
   simp only[e1,bindE]
   refine⟨_,by rw[wrap1 (by omega)],⟨k+1,_,rfl,by omega,rfl,fun a b=>?_,by simp;omega⟩,by simp;omega⟩
   rw[List.mem_append,hm a b,List.mem_map]
   constructor
   ·rintro(⟨h,e⟩|⟨t,ht,e⟩)
    ·exact⟨by omega,e⟩
    ·cases e
     have hym:t∈TT f k:=hpm.mem_iff.1 ht
     obtain⟨y0,_⟩:=TT_in hn hym
     exact⟨by omega,by show((t.toNat:Nat):Int)∈TT f k;rw[Int.toNat_of_nonneg y0];exact hym⟩
   ·rintro⟨h,e⟩
    by_cases ek:a=k
    ·subst ek
     exact .inr ⟨(b:Int),hpm.mem_iff.2 e,by simp⟩
    ·exact .inl ⟨by omega,e⟩
  ·right;left
   have hkn:k=f.blocks.length:=by omega
   refine⟨((k:Int),es.map emb),by rw[if_neg (by simp;omega)],es,rfl,fun a b=>?_,?_⟩
   ·rw[hm a b]
    exact⟨fun h=>h.2,fun h=>⟨by rw[hkn];exact TT_fst h,h⟩⟩
   ·have:k*1048576≤1000*1048576:=Nat.mul_le_mul_right _ (by omega)
    omega
 ·rintro⟨⟨z,_⟩,h1,es,rfl,h⟩
  simp only[h1,bindE]
  exact⟨es,rfl,h⟩
end edges
def BE(f:Fnc)(h:Nat):Prop:= ∃a,EE f a h∧Dm (EE f) h a
def LB(f:Fnc)(E:Nat→Nat→Prop)(h j:Nat):Prop:=j=h∨ ∃a,E a h∧Dm (EE f) h a∧Path (EE f) (okk h) j a∧PT f 0 j
structure LM (f:Fnc) (E:Nat→Nat→Prop) (m:List (Int×zC)):Prop where
 nd:(m.map (·.1)).Nodup
 key: ∀k:Int,k∈m.map (·.1)→ ∃h:Nat,k=h∧h<f.blocks.length∧ ∃a,E a h∧Dm (EE f) h a
 has: ∀a h:Nat,E a h→Dm (EE f) h a→ ∃s,mget m (h:Int)=some s
 val: ∀(h:Nat) s,mget m (h:Int)=some s→(bV s f.blocks.length∧ ∀j:Nat,f.blocks.length≤j→bH s j=false)∧ ∀j:Nat,j<f.blocks.length→(bH s j=true↔LB f E h j)
theorem mget_key{β:Type}{m:List (Int×β)}{k:Int}:(∃x,mget m k=some x)↔k∈m.map (·.1):=by
 induction m with
 |nil=>simp[mget]
 |cons p m ih=>
  simp only[mget,List.map_cons,List.mem_cons]
  split
  ·rename_i e;simp[e]
  ·rename_i e;rw[ih];simp[e]
theorem mget_mset{β:Type}{m:List (Int×β)}{k q:Int}{x:β}:mget (mset m k x) q=if q=k then some x else mget m q:=by
 induction m with
 |nil=>simp[mget,mset]
 |cons p m ih=>
  simp only[mset]
  split
  ·rename_i e
   simp only[mget]
   by_cases c:q=k
   ·simp[c]
   ·rw[if_neg c,if_neg c,if_neg (by rw[←e];exact c)]
  ·rename_i e
   simp only[mget]
   by_cases c:q=p.1
   ·rw[if_pos c,if_pos c,if_neg (by rw[c];exact fun h=>e h.symm)]
   ·rw[if_neg c,if_neg c,ih]
theorem mset_keys{β:Type}{m:List (Int×β)}{k:Int}{x:β}:(mset m k x).map (·.1)=if k∈m.map (·.1) then m.map (·.1) else m.map (·.1)++[k]:=by
 induction m with
 |nil=>simp[mset]
 |cons p m ih=>
  simp only[mset]
  split
  ·rename_i e;simp[e]
  ·rename_i e
   simp only[List.map_cons,List.mem_cons]
   rw[ih]
   by_cases c:k∈m.map (·.1)
   ·rw[if_pos c,if_pos (.inr c)]
   ·rw[if_neg c,if_neg (by rintro(h|h);exact e h;exact c h)];rfl
theorem mset_keys_nd{β:Type}{m:List (Int×β)}{k:Int}{x:β}(h:(m.map (·.1)).Nodup):((mset m k x).map (·.1)).Nodup:=by
 rw[mset_keys]
 split
 ·exact h
 ·rename_i c
  exact List.nodup_append.2 ⟨h,by simp,fun a ha b hb=>by rw[List.mem_singleton.1 hb];rintro rfl;exact c ha⟩
end Go.Proofs.Ytoojnagdenoknaa.PL
set_option linter.unusedVariables false
set_option linter.unusedSectionVars false
set_option linter.unusedSimpArgs false
namespace Go.Proofs.Ytoojnagdenoknaa.PL
open Go
theorem LM.skip{f:Fnc}{E E':Nat→Nat→Prop}{m:List (Int×zC)}{a h:Nat}(H:LM f E m)(hE: ∀x y,E' x y↔E x y∨(x=a∧y=h))(hd: ¬Dm (EE f) h a):LM f E' m:=by
 have key: ∀x y,E' x y∧Dm (EE f) y x↔E x y∧Dm (EE f) y x:=by
  intro x y
  rw[hE]
  refine⟨fun⟨h1,h2⟩=>⟨?_,h2⟩,fun⟨h1,h2⟩=>⟨.inl h1,h2⟩⟩
  rcases h1 with h1|⟨rfl,rfl⟩
  ·exact h1
  ·exact absurd h2 hd
 refine⟨H.nd,fun k hk=>?_,fun x y h1 h2=>?_,fun y s hs=>?_⟩
 ·obtain⟨y,e,hy,x,h1,h2⟩:=H.key k hk
  have:=(key x y).2 ⟨h1,h2⟩
  exact⟨y,e,hy,x,this.1,this.2⟩
 ·have:=(key x y).1 ⟨h1,h2⟩
  exact H.has x y this.1 this.2
 ·obtain⟨h1,h2⟩:=H.val y s hs
  refine⟨h1,fun j hj=>?_⟩
  rw[h2 j hj]
  refine or_congr Iff.rfl ⟨fun⟨x,k1,k2,k3⟩=>?_,fun⟨x,k1,k2,k3⟩=>?_⟩
  ·have:=(key x y).2 ⟨k1,k2⟩
   exact⟨x,this.1,this.2,k3⟩
  ·have:=(key x y).1 ⟨k1,k2⟩
   exact⟨x,this.1,this.2,k3⟩
theorem LM.none'{f:Fnc}{E:Nat→Nat→Prop}{m:List (Int×zC)}{h j:Nat}(H:LM f E m)(hm:mget m (h:Int)=none):LB f E h j↔j=h:=by
 refine⟨fun k=>?_,.inl⟩
 rcases k with k|⟨x,k1,k2,_⟩
 ·exact k
 ·obtain⟨s,e⟩:=H.has x h k1 k2
  rw[hm] at e;cases e
theorem LM.add{f:Fnc}{E E':Nat→Nat→Prop}{m c4:List (Int×zC)}{a h:Nat}(H:LM f E m)(hE: ∀x y,E' x y↔E x y∨(x=a∧y=h))(hh:h<f.blocks.length)(hd:Dm (EE f) h a){x2 s:zC}
  (hc4:(c4=m∧mget m (h:Int)=some x2)∨(c4=mset m (h:Int) x2)) (hx: ∀j:Nat,j<f.blocks.length→(bH x2 j=true↔LB f E h j)) (hV:bV s f.blocks.length∧ ∀j:Nat,f.blocks.length≤j→bH s j=false)
  (hsb: ∀j:Nat,j<f.blocks.length→(bH s j=true↔bH x2 j=true∨(Path (EE f) (okk h) j a∧PT f 0 j))):LM f E' (mset c4 (h:Int) s):=by
 have hg: ∀q:Int,mget (mset c4 (h:Int) s) q=if q=(h:Int) then some s else mget m q:=by
  intro q
  rw[mget_mset]
  split
  ·rfl
  ·rename_i c
   rcases hc4 with ⟨rfl,_⟩|rfl
   ·rfl
   ·rw[mget_mset,if_neg c]
 have hnd:(c4.map (·.1)).Nodup:=by
  rcases hc4 with ⟨rfl,_⟩|rfl
  ·exact H.nd
  ·exact mset_keys_nd H.nd
 refine⟨mset_keys_nd hnd,fun k hk=>?_,fun x y h1 h2=>?_,fun y s' hs'=>?_⟩
 ·obtain⟨s',hs'⟩:=mget_key.2 hk
  rw[hg] at hs'
  split at hs'
  ·rename_i e
   exact⟨h,e,hh,a,(hE a h).2 (.inr ⟨rfl,rfl⟩),hd⟩
  ·obtain⟨y,e,hy,x,h1,h2⟩:=H.key k (mget_key.1 ⟨s',hs'⟩)
   exact⟨y,e,hy,x,(hE x y).2 (.inl h1),h2⟩
 ·rw[hg]
  split
  ·exact⟨s,rfl⟩
  ·rename_i c
   rcases (hE x y).1 h1 with h1|⟨_,rfl⟩
   ·exact H.has x y h1 h2
   ·exact absurd rfl c
 ·rw[hg] at hs'
  split at hs'
  ·rename_i e
   cases hs'
   have:y=h:=by omega
   subst this
   refine⟨hV,fun j hj=>?_⟩
   rw[hsb j hj,hx j hj]
   constructor
   ·rintro((k|⟨x,k1,k2,k3⟩)|k)
    ·exact .inl k
    ·exact .inr ⟨x,(hE x y).2 (.inl k1),k2,k3⟩
    ·exact .inr ⟨a,(hE a y).2 (.inr ⟨rfl,rfl⟩),hd,k⟩
   ·rintro(k|⟨x,k1,k2,k3⟩)
    ·exact .inl (.inl k)
    ·rcases (hE x y).1 k1 with k1|⟨rfl,_⟩
     ·exact .inl (.inr ⟨x,k1,k2,k3⟩)
     ·exact .inr k3
  ·rename_i c
   obtain⟨h1,h2⟩:=H.val y s' hs'
   refine⟨h1,fun j hj=>?_⟩
   rw[h2 j hj]
   refine or_congr Iff.rfl ⟨fun⟨x,k1,k2,k3⟩=>⟨x,(hE x y).2 (.inl k1),k2,k3⟩,fun⟨x,k1,k2,k3⟩=>?_⟩
   rcases (hE x y).1 k1 with k1|⟨_,rfl⟩
   ·exact⟨x,k1,k2,k3⟩
   ·exact absurd rfl c
section new
variable {f:Fnc} {fuel:Nat} {g:zI} (hn:fOk f) (hs:f.blocks.length≤1000) (hf:17592186044416<fuel)
 (hg:g.succ.length=f.blocks.length) (h2: ∀j:Nat,j<f.blocks.length→g.succ[j]?=some (TT f j)) (h3: ∀j:Nat,j<f.blocks.length→g.pred[j]?=some (PP f f.blocks.length j))
include hg hf in
theorem dom_new_zero(h0:f.blocks.length=0): ∃t,pz15 fuel g=some t:=by
 obtain⟨m,rfl⟩: ∃m,fuel=m+1:=⟨fuel-1,by omega⟩
 unfold pz15 pzh pzr pzh
 simp only[hg,h0,Option.bind_some]
 have e:mk (0:Int) (0:Int)=some []:=by simp[mk]
 simp[e,loopE,pz12,pz13,bindE]
include hn hs hf hg h2 h3 in
theorem loops_new_ok: ∃l,pz1x fuel g=some l∧l.n=(f.blocks.length:Int)∧LM f (EE f) l.body:=by
 have hn1:=hn.1
 obtain⟨es,e1,hes,hel⟩:=edges_ok hn hs hf hg h2
 obtain⟨t,e2,hT⟩: ∃t,pz15 fuel g=some t∧ ∀a h:Nat,a<f.blocks.length→ ∃r,pz1f fuel t (h:Int) (a:Int)=some r∧(r=true↔Dm (EE f) h a):=by
  by_cases h0:f.blocks.length=0
  ·obtain⟨t,e⟩:=dom_new_zero (fuel:=fuel) hf hg h0
   exact⟨t,e,fun a h ha=>absurd ha (by omega)⟩
  ·obtain⟨t,w,e,hP,hw,hD⟩:=dom_new_ok hn (by omega) hf hg h2 h3
   exact⟨t,e,fun a h ha=>is_ok hn (by omega) hP hw hD hf ha⟩
 unfold pz1x pzh
 simp only[hg,Option.bind_some,e1,e2]
 have hml:(es.map emb).length=es.length:=by simp
 refine Or.elim (zj (ρ:=zM) (fun s:Int×List (Int×zC)=> ∃k:Nat,s.1=k∧k≤es.length∧LM f (fun x y=>(x,y)∈es.take k) s.2) (fun s=>LM f (EE f) s.2) (fun _=>False) (fun s=>es.length-s.1.toNat)
  (fun s=>pz1w fuel g (f.blocks.length:Int) t (es.map emb) s.1 s.2) ?_ fuel (0,[]) ⟨0,rfl,by omega,by simp,by simp,by simp,by simp[mget]⟩ (by simp;omega)) ?_ ?_
 rotate_right
 ·rintro⟨v,_,h⟩;exact h.elim
 ·rintro⟨_,m⟩ ⟨k,rfl,hk,hM⟩
  simp only at hM
  show(∃s',pz1w fuel g (f.blocks.length:Int) t (es.map emb) (k:Int) m=some (.n s')∧_)∨(∃s',pz1w fuel g (f.blocks.length:Int) t (es.map emb) (k:Int) m=some (.b s')∧_)∨_
  unfold pz1w
  rw[hml]
  by_cases c:k<es.length
  ·left
   obtain⟨⟨a,h⟩,hy⟩:=getAt c
   have hee:EE f a h:=(hes a h).1 (List.mem_of_getElem? hy)
   have al:=TT_fst hee
   have hl:=TT_lt hn hee
   have h0:0<f.blocks.length:=by omega
   have hmk:(es.map emb)[k]?=some (⟨(a:Int),(h:Int)⟩:A2 Int):=by rw[List.getElem?_map,hy];rfl
   have hE: ∀x y,(x,y)∈es.take (k+1)↔(x,y)∈es.take k∨(x=a∧y=h):=by
    intro x y
    rw[List.take_add_one,hy,Option.toList_some,List.mem_append,List.mem_singleton,Prod.mk.injEq]
   obtain⟨r,r1,r2⟩:=hT a h al
   rw[if_pos (by simp;omega),zS hmk]
   simp only[Option.bind_some,r1]
   cases r with
   |false=>
    simp only[Bool.not_false,if_true,Option.bind_some]
    exact⟨_,by rw[wrap1 (by omega)],⟨k+1,rfl,c,hM.skip hE (fun d=>by cases r2.2 d)⟩,by simp;omega⟩
   |true=>
    have hd:=r2.1 rfl
    obtain⟨s6,a1,a2,a3⟩:=away_ok hn hf hg h3 (wo:=h) al
    obtain⟨s7,b1,b2,b3⟩:=reached_ok hn h0 hf hg h2
    obtain⟨q,s8,c1,c2,c3,_⟩:=and_ok a2 b2 (by omega) (fuel:=fuel) (by omega)
    have fin: ∀c4 x2,((c4=m∧mget m (h:Int)=some x2)∨(c4=mset m (h:Int) x2))→bV x2 f.blocks.length→(∀j:Nat,j<f.blocks.length→(bH x2 j=true↔LB f (fun x y=>(x,y)∈es.take k) h j))→
      ∃s9,((mget c4 (h:Int)).bind fun x2=>(pz1v fuel x2 s8).bind fun(r9,m3)=>some (mset c4 (h:Int) m3))=some (mset c4 (h:Int) s9)∧LM f (fun x y=>(x,y)∈es.take (k+1)) (mset c4 (h:Int) s9):=by
     intro c4 x2 h4 hv hx
     obtain⟨q9,s9,d1,d2,d3,_⟩:=or_ok hv c2 (by omega) (fuel:=fuel) (by omega)
     have hget:mget c4 (h:Int)=some x2:=by
      rcases h4 with ⟨rfl,e⟩|rfl
      ·exact e
      ·rw[mget_mset,if_pos rfl]
     refine⟨s9,by rw[hget,Option.bind_some,d1];rfl,hM.add hE hl hd h4 hx ⟨d2,fun j hj=>by rw[d3 j];simp;omega⟩ fun j hj=>?_⟩
     rw[d3 j,c3 j]
     simp only[Bool.and_eq_true,Bool.or_eq_true,decide_eq_true_eq,hj,and_true,a3 j hj,b3 j]
    simp only[Bool.not_true,Bool.false_eq_true,if_false,Option.bind_some,a1,b1,c1]
    cases hmg:mget m (h:Int) with
    |none=>
     obtain⟨s5,o1,o2,o3⟩:=of_ok (n:=f.blocks.length) (by omega) (l:=[(h:Int)]) (by simp) (fuel:=fuel) (by simp;omega)
     have hh:mhas m (h:Int)=false:=by unfold mhas;rw[hmg];rfl
     obtain⟨s9,f1,f2⟩:=fin (mset m (h:Int) s5) s5 (.inr rfl) o2 (fun j hj=>by
      rw[hM.none' hmg,o3 j]
      simp[hj]
      omega)
     simp only[hh,Bool.not_false,if_true,o1,Option.bind_some]
     rw[f1]
     exact⟨_,by rw[Option.bind_some,wrap1 (by omega)],⟨k+1,rfl,c,f2⟩,by simp;omega⟩
    |some s5=>
     have hh:mhas m (h:Int)=true:=by unfold mhas;rw[hmg];rfl
     obtain⟨o2,o3⟩:=hM.val h s5 hmg
     obtain⟨s9,f1,f2⟩:=fin m s5 (.inl ⟨rfl,hmg⟩) o2.1 o3
     simp only[hh,Bool.not_true,Bool.false_eq_true,if_false,Option.bind_some]
     rw[f1]
     exact⟨_,by rw[Option.bind_some,wrap1 (by omega)],⟨k+1,rfl,c,f2⟩,by simp;omega⟩
  ·right;left
   refine⟨((k:Int),m),by rw[if_neg (by simp;omega)],?_⟩
   have he:(fun x y=>(x,y)∈es.take k)=EE f:=by
    funext x y
    rw[List.take_of_length_le (by omega)]
    exact propext (hes x y)
   rwa [he] at hM
 ·rintro⟨⟨z,m⟩,h1,h⟩
  simp only[h1,bindE]
  exact⟨_,rfl,rfl,h⟩
end new
end Go.Proofs.Ytoojnagdenoknaa.PL
set_option linter.unusedVariables false
set_option linter.unusedSectionVars false
set_option linter.unusedSimpArgs false
namespace Go.Proofs.Ytoojnagdenoknaa.PL
open Go
theorem okk_ne{h x:Nat}:okk (h:Int) x↔x≠h:=by unfold okk;omega
def IN(f:Fnc)(h j:Nat):Prop:=BE f h∧LB f (EE f) h j
noncomputable def inB(f:Fnc)(h j:Nat):Bool:= @decide (IN f h j) (Classical.propDecidable _)
theorem inB_t{f:Fnc}{h j:Nat}:inB f h j=true↔IN f h j:=by unfold inB;exact @decide_eq_true_iff _ (Classical.propDecidable _)
theorem bool_inB{f:Fnc}{h j:Nat}{b:Bool}(e:b=true↔IN f h j):b=inB f h j:=by
 rw[Bool.eq_iff_iff,e,inB_t]
theorem in_self{f:Fnc}{h:Nat}:IN f h h↔BE f h:=⟨fun k=>k.1,fun k=>⟨k,.inl rfl⟩⟩
noncomputable def HN(f:Fnc):List Nat:=(List.range f.blocks.length).filter fun h=>inB f h h
theorem HN_mem{f:Fnc}(hn:fOk f){h:Nat}:h∈HN f↔BE f h:=by
 unfold HN
 rw[List.mem_filter,List.mem_range,inB_t,in_self]
 exact⟨fun k=>k.2,fun k=>⟨by obtain⟨a,h1,_⟩:=k;exact TT_lt hn h1,k⟩⟩
theorem HN_len(f:Fnc):(HN f).length≤f.blocks.length:=by
 unfold HN
 exact Nat.le_trans (List.length_filter_le _ _) (by simp)
theorem HN_sorted(f:Fnc):(HN f).Pairwise (· < ·):=List.pairwise_lt_range.filter _
section ref
variable {f:Fnc} (hn:fOk f) {fuel:Nat} (hf:1048577<fuel)
end ref
end Go.Proofs.Ytoojnagdenoknaa.PL
set_option linter.unusedVariables false
set_option linter.unusedSectionVars false
set_option linter.unusedSimpArgs false
namespace Go.Proofs.Ytoojnagdenoknaa.PL
open Go
theorem mget_mem{β:Type}{m:List (Int×β)}(hn:(m.map (·.1)).Nodup){p:Int×β}(h:p∈m):mget m p.1=some p.2:=by
 induction m with
 |nil=>cases h
 |cons q m ih=>
  simp only[List.map_cons,List.nodup_cons] at hn
  simp only[mget]
  rcases List.mem_cons.1 h with rfl|h
  ·rw[if_pos rfl]
  ·rw[if_neg,ih hn.2 h]
   intro e
   exact hn.1 (e▸List.mem_map_of_mem (f:=(·.1)) h)
theorem mapM_some{α β:Type}{f:α→Option β}{g:α→β}: ∀{l:List α},(∀x∈l,f x=some (g x))→l.mapM f=some (l.map g)
 |[],_=>rfl
 |x::l,h=>by
  rw[List.mapM_cons,h x (by simp),mapM_some fun y hy=>h y (by simp[hy])]
  rfl
section ask
variable {f:Fnc} {l:zM} {fuel:Nat} (hn:fOk f) (hN:l.n=(f.blocks.length:Int)) (hL:LM f (EE f) l.body)
include hn hL in
theorem keys_perm:List.Perm (l.body.map (·.1)) (embN (HN f)):=by
 refine(List.perm_ext_iff_of_nodup hL.nd ?_).2 fun k=>?_
 ·unfold embN
  rw[List.Nodup,List.pairwise_map]
  exact(HN_sorted f).imp fun h e=>by omega
 ·constructor
  ·intro h
   obtain⟨y,e,_,a,h1,h2⟩:=hL.key k h
   exact List.mem_map.2 ⟨y,(HN_mem hn).2 ⟨a,h1,h2⟩,e.symm⟩
  ·intro h
   obtain⟨y,hy,rfl⟩:=List.mem_map.1 h
   obtain⟨a,h1,h2⟩:=(HN_mem hn).1 hy
   exact mget_key.1 (hL.has a y h1 h2)
include hn hL in
theorem heads_ok:pz20 fuel l=some (embN (HN f)):=by
 have hn1:=hn.1
 have hp:=keys_perm hn hL
 have hl:=HN_len f
 have hlen:l.body.length≤4294967296:=by
  have h1:=hp.length_eq
  simp only[embN,List.length_map] at h1
  omega
 unfold pz20 pz1y pz1z
 simp only[Option.bind_some,if_pos hlen]
 congr 1
 refine List.Perm.eq_of_pairwise (le:=(· ≤ ·)) (fun x y _ _ h1 h2=>Int.le_antisymm h1 h2) (kF _) ?_ ((kR _).trans hp)
 unfold embN
 rw[List.pairwise_map]
 exact(HN_sorted f).imp fun h=>by omega
include hn hL in
theorem body_at{h:Nat}(hb:BE f h): ∃s,mget l.body (h:Int)=some s∧bV s f.blocks.length∧(∀j:Nat,j<f.blocks.length→(bH s j=inB f h j))∧(∀j:Nat,f.blocks.length≤j→bH s j=false)∧ ∀fuel,pz27 fuel l (h:Int)=some s:=by
 have hn1:=hn.1
 obtain⟨a,h1,h2⟩:=hb
 obtain⟨s,e⟩:=hL.has a h h1 h2
 obtain⟨⟨k1,k3⟩,k2⟩:=hL.val h s e
 refine⟨s,e,k1,fun j hj=>bool_inB ((k2 j hj).trans ⟨fun k=>⟨⟨a,h1,h2⟩,k⟩,fun k=>k.2⟩),k3,fun fuel=>?_⟩
 have hm:mhas l.body (h:Int)=true:=by unfold mhas;rw[e];rfl
 unfold pz27 pz24
 simp only[hm,Option.bind_some,Bool.not_true,Bool.false_eq_true,if_false,e,copy_ok k1 (by omega)]
noncomputable def hasI(f:Fnc)(h:Nat)(i:Int):Bool:=decide (0≤i∧i<(f.blocks.length:Int))&&inB f h i.toNat
theorem has_body{s:zC}{h:Nat}(hn:fOk f)(hV:bV s f.blocks.length)(hb: ∀j:Nat,j<f.blocks.length→(bH s j=inB f h j))(fuel:Nat)(i:Int):pzk fuel s i=some (hasI f h i):=by
 have hn1:=hn.1
 rw[has_ok hV (by omega)]
 unfold hasI
 by_cases c:0≤i∧i<(f.blocks.length:Int)
 ·rw[decide_eq_true c,hb i.toNat (by omega)]
 ·rw[decide_eq_false c];rfl
include hn hN hL in
theorem depth_any(i:Int):pz23 fuel l i=some (((HN f).countP fun h=>hasI f h i:Nat):Int):=by
 have hn1:=hn.1
 have hp:=keys_perm hn hL
 unfold pz23
 have hg: ∀x∈l.body,pzk fuel x.2 i=some (hasI f x.1.toNat i):=by
  intro x hx
  obtain⟨y,e,_,a,h1,h2⟩:=hL.key x.1 (List.mem_map_of_mem (f:=(·.1)) hx)
  have hm:=mget_mem hL.nd hx
  obtain⟨s,k0,k1,k2,_⟩:=body_at hn hL ⟨a,h1,h2⟩
  rw[e] at hm
  rw[k0] at hm
  cases hm
  rw[has_body hn k1 k2,e]
  simp only[Int.toNat_natCast]
 rw[mapM_some hg,Option.bind_some]
 have hc:((l.body.map fun x=>hasI f x.1.toNat i).filter id).length=(HN f).countP fun h=>hasI f h i:=by
  rw[←List.countP_eq_length_filter,List.countP_map]
  have h1:l.body.countP (id∘fun x=>hasI f x.1.toNat i)=(l.body.map (·.1)).countP fun k=>hasI f k.toNat i:=by rw[List.countP_map];rfl
  rw[h1,hp.countP_eq]
  unfold embN
  rw[List.countP_map]
  refine List.countP_congr fun x _=>?_
  simp
 rw[hc]
 have h1:=List.countP_le_length (p:=fun h=>hasI f h i) (l:=HN f)
 have h2:=HN_len f
 rw[yP (by omega) (by omega)]
end ask
end Go.Proofs.Ytoojnagdenoknaa.PL
set_option linter.unusedVariables false
set_option linter.unusedSimpArgs false
namespace Go.Proofs.Ytoojnagdenoknaa.PL
open Go
theorem large_tot{f:Fnc}(hn:fOk f)(fuel:Nat): ∃b,pz3 fuel f=some b:=by
 have hn1:=hn.1
 unfold pz3
 obtain⟨s,h1,_⟩:=toN_inv (fun _ (_:Int)=>True) (fun i s=>pz2 fuel f i s) f.blocks.length (by omega) (s:=IntKind.wrap .i64 ((IntKind.wrap .i64 ((f.name.size:Int)+(f.regs.length:Int)))+(f.params.length:Int))) trivial (by
  intro i s hi _
  obtain⟨b,hb⟩:=getAt hi
  have hbb:=hn.2 b (List.mem_of_getElem? hb)
  unfold pz2
  simp only[zS hb,Option.bind_some]
  obtain⟨s,h1,_⟩:=toN_inv (fun _ (_:Int)=>True) (fun i s=>pz1 fuel b i s) b.code.length (by omega) (s:=(IntKind.wrap .i64 ((IntKind.wrap .i64 (s+(b.label.size:Int)))+(b.ins.length:Int)))) trivial (by
   intro i s hi _
   obtain⟨c,hc⟩:=getAt hi
   have hcc:=hbb.2 c (List.mem_of_getElem? hc)
   unfold pz1
   simp only[zS hc,Option.bind_some]
   obtain⟨s,h1,_⟩:=toN_inv (fun _ (_:Int)=>True) (fun i s=>pz0 fuel c i s) c.labels.length (by omega) (s:=(IntKind.wrap .i64 ((IntKind.wrap .i64 ((IntKind.wrap .i64 ((IntKind.wrap .i64 (s+1))+(c.args.length:Int)))+(c.name.size:Int)))+(c.cases.length:Int)))) trivial (by
    intro i s hi _
    obtain⟨l,hl⟩:=getAt hi
    unfold pz0
    simp only[zS hl,Option.bind_some]
    exact⟨_,rfl,trivial⟩)
   rw[h1]
   exact⟨_,rfl,trivial⟩)
  rw[h1]
  exact⟨_,rfl,trivial⟩)
 rw[h1]
 exact⟨_,rfl⟩
end Go.Proofs.Ytoojnagdenoknaa.PL
set_option linter.unusedVariables false
set_option linter.unusedSectionVars false
set_option linter.unusedSimpArgs false
namespace Go.Proofs.Ytoojnagdenoknaa.PL
open Go
section paths
variable {E:Nat→Nat→Prop}
theorem Path.trans{ok:Nat→Prop}{a b c:Nat}(p:Path E ok a b)(q:Path E ok b c):Path E ok a c:=by
 induction p with
 |one _=>exact q
 |step k e _ ih=>exact .step k e (ih q)
theorem Path.past{ok:Nat→Prop}{a b:Nat}(c:Nat)(p:Path E ok a b):Path E (fun x=>ok x∧x≠c) a b∨Path E ok c b:=by
 induction p with
 | @one a k=>
  by_cases e:a=c
  ·subst e;exact .inr (.one k)
  ·exact .inl (.one ⟨k,e⟩)
 | @step a b d k e p ih=>
  rcases ih with ih|ih
  ·by_cases h:a=c
   ·subst h;exact .inr (.step k e p)
   ·exact .inl (.step ⟨k,h⟩ e ih)
  ·exact .inr ih
theorem last_of{a c b:Nat}(h:Rb E b):Path E (fun x=>x≠a∧x≠c) 0 b∨ ∃z,(z=a∨z=c)∧Rb E z∧(z=b∨ ∃y,E z y∧Path E (fun x=>x≠a∧x≠c) y b):=by
 have key:Rb E b∧(Path E (fun x=>x≠a∧x≠c) 0 b∨ ∃z,(z=a∨z=c)∧Rb E z∧(z=b∨ ∃y,E z y∧Path E (fun x=>x≠a∧x≠c) y b)):=by
  refine h.closed (C:=fun b=>Rb E b∧(Path E (fun x=>x≠a∧x≠c) 0 b∨ ∃z,(z=a∨z=c)∧Rb E z∧(z=b∨ ∃y,E z y∧Path E (fun x=>x≠a∧x≠c) y b))) (fun x y hx e _=>?_) ⟨.one trivial,?_⟩
  ·have ry:=hx.1.snoc e trivial
   refine⟨ry,?_⟩
   by_cases hy:y=a∨y=c
   ·exact .inr ⟨y,hy,ry,.inl rfl⟩
   ·have hy':y≠a∧y≠c:=by omega
    rcases hx.2 with p|⟨z,hz,rz,k⟩
    ·exact .inl (p.snoc e hy')
    ·refine .inr ⟨z,hz,rz,.inr ?_⟩
     rcases k with rfl|⟨q,e2,p⟩
     ·exact⟨y,e,.one hy'⟩
     ·exact⟨q,e2,p.snoc e hy'⟩
  ·by_cases h0:(0=a∨0=c)
   ·exact .inr ⟨0,h0,.one trivial,.inl rfl⟩
   ·exact .inl (.one (by omega))
 exact key.2
theorem dm_comp{a b c:Nat}(h:Dm E a b)(k:Dm E c b):Dm E a c∨Dm E c a:=by
 rcases last_of (a:=a) (c:=c) h.1 with p|⟨z,hz,rz,q⟩
 ·exact absurd (p.mono fun x hx=>hx.1) h.2
 ·have tail: ∀d,d=a∨d=c→Dm E d b→Dm E d z:=by
   intro d hd hk
   refine⟨rz,fun p=>?_⟩
   rcases q with rfl|⟨y,e,q⟩
   ·exact hk.2 p
   ·exact hk.2 (p.trans (.step p.lst e (q.mono fun x hx=>by rcases hd with rfl|rfl;exact hx.1;exact hx.2)))
  rcases hz with rfl|rfl
  ·exact .inr (tail c (.inr rfl) k)
  ·exact .inl (tail a (.inl rfl) h)
end paths
theorem path_ne{f:Fnc}{h j a:Nat}:Path (EE f) (okk (h:Int)) j a↔Path (EE f) (fun x=>x≠h) j a:=⟨fun p=>p.mono fun x k=>okk_ne.1 k,fun p=>p.mono fun x k=>okk_ne.2 k⟩
section nest
variable {f:Fnc} {w:List Nat} (hP:Post f w)
theorem head_rb{h:Nat}(k:BE f h):Rb (EE f) h:=by
 obtain⟨a,h1,h2⟩:=k
 exact h2.1.snoc h1 trivial
theorem in_dm{h j:Nat}(k:IN f h j):Dm (EE f) h j:=by
 obtain⟨kb,k⟩:=k
 rcases k with rfl|⟨a,h1,h2,h3,h4⟩
 ·exact Dm.self (head_rb kb)
 ·exact⟨rb_pt.2 h4,fun p=>h2.2 (p.trans (path_ne.1 h3))⟩
include hP in
theorem dm_anti{a b:Nat}(h:Dm (EE f) a b)(k:Dm (EE f) b a):a=b:=by
 have hpar: ∀j,Rb (EE f) j→j≠0→ ∃p,EE f p j∧Rb (EE f) p∧od w p<od w j:=fun j hj h=>od_par hP hj h
 rcases dm_ord hpar h with e|e
 ·exact e
 ·rcases dm_ord hpar k with e2|e2
  ·exact e2.symm
  ·omega
include hP in
theorem nest1{x y b:Nat}(hd:Dm (EE f) x y)(hne:x≠y)(kx:IN f x b)(ky:IN f y b){j:Nat}(hj:IN f y j):IN f x j:=by
 have nyx: ¬Dm (EE f) y x:=fun k=>hne (dm_anti hP hd k)
 have rx:=head_rb kx.1
 have bx:b≠x:=by rintro rfl;exact nyx (in_dm ky)
 have jx:j≠x:=by rintro rfl;exact nyx (in_dm hj)
 obtain⟨kbx,kx⟩:=kx
 rcases kx with e|⟨a,a1,a2,a3,a4⟩
 ·exact absurd e bx
 ·-- from the inner head to the block that both have
  have yb:Path (EE f) (fun z=>z≠x) y b:=by
   have dyb:=in_dm ky
   rcases last_of (a:=x) (c:=y) dyb.1 with p|⟨z,hz,rz,q⟩
   ·exact absurd (p.mono fun z k=>k.2) dyb.2
   ·rcases hz with rfl|rfl
    ·exfalso
     have px:Path (EE f) (fun v=>v≠y) 0 z:=Classical.byContradiction fun c=>nyx ⟨rz,c⟩
     rcases q with rfl|⟨v,e,q⟩
     ·exact bx rfl
     ·exact dyb.2 (px.trans (.step px.lst e (q.mono fun v k=>k.2)))
    ·rcases q with rfl|⟨v,e,q⟩
     ·exact .one (Ne.symm hne)
     ·exact .step (Ne.symm hne) e (q.mono fun v k=>k.1)
  have fin:Path (EE f) (fun z=>z≠x) y a:=yb.trans (path_ne.1 a3)
  refine⟨kbx,.inr ⟨a,a1,a2,path_ne.2 ?_,?_⟩⟩
  ·obtain⟨kby,hj⟩:=hj
   rcases hj with rfl|⟨q,q1,q2,q3,q4⟩
   ·exact fin
   ·rcases (path_ne.1 q3).past x with p|p
    ·exact((p.mono (ok':=fun z=>z≠x) fun v k=>k.2).snoc q1 (Ne.symm hne)).trans fin
    ·exact absurd (in_dm ⟨kby,.inr ⟨q,q1,q2,path_ne.2 p,rb_pt.1 rx⟩⟩) nyx
  ·rw[←rb_pt];exact(in_dm hj).1
include hP in
theorem nest{x y b:Nat}(kx:IN f x b)(ky:IN f y b):(∀j,IN f y j→IN f x j)∨ ∀j,IN f x j→IN f y j:=by
 by_cases e:x=y
 ·subst e;exact .inl fun j h=>h
 ·rcases dm_comp (in_dm kx) (in_dm ky) with h|h
  ·exact .inl fun j hj=>nest1 hP h e kx ky hj
  ·exact .inr fun j hj=>nest1 hP h (Ne.symm e) ky kx hj
end nest
section count
variable {s o:zC} {n:Nat}
theorem word_bit(hV:bV s n){i:Nat}{w:Int}(h:s.words[i]?=some w)(b:Nat):w.toNat.testBit b=(decide (b<64)&&bH s (64*i+b)):=by
 by_cases c:b<64
 ·unfold bH
  rw[show(64*i+b)/64=i by omega,show(64*i+b)%64=b by omega,h]
  simp[c]
 ·obtain⟨w0,w1⟩:=hV.2.2 w (List.mem_of_getElem? h)
  have h64:(18446744073709551616:Nat)≤2^b:=by
   rw[show(18446744073709551616:Nat)=2^64 by decide]
   exact Nat.pow_le_pow_right (by decide) (by omega)
  rw[Nat.testBit_lt_two_pow (by omega)]
  simp[c]
theorem bV_ext(hV:bV s n)(hO:bV o n)(h: ∀j,bH s j=bH o j):s=o:=by
 have hw:s.words=o.words:=by
  refine List.ext_getElem? fun i=>?_
  by_cases c:i<(n+63)/64
  ·obtain⟨v,hv⟩:=getAt (xs:=s.words) (i:=i) (by rw[hV.2.1];exact c)
   obtain⟨u,hu⟩:=getAt (xs:=o.words) (i:=i) (by rw[hO.2.1];exact c)
   rw[hv,hu]
   obtain⟨v0,_⟩:=hV.2.2 v (List.mem_of_getElem? hv)
   obtain⟨u0,_⟩:=hO.2.2 u (List.mem_of_getElem? hu)
   have:v.toNat=u.toNat:=Nat.eq_of_testBit_eq fun b=>by rw[word_bit hV hv,word_bit hO hu,h]
   congr 1
   omega
  ·rw[List.getElem?_eq_none (by rw[hV.2.1];omega),List.getElem?_eq_none (by rw[hO.2.1];omega)]
 cases s;cases o
 have e1:=hV.1;have e2:=hO.1
 simp only at hw e1 e2
 rw[hw,e1,e2]
theorem ones_tot(fuel:Nat)(x:Int): ∃c,pz28 fuel x=some c:=by
 unfold pz28
 simp[shr]
theorem ones_zero(fuel:Nat):pz28 fuel 0=some 0:=by
 unfold pz28
 decide+kernel
theorem count_gen(hV:bV s n)(hn:n≤4294967){fuel:Nat}(hf:n+1<fuel): ∃c,pz2a fuel s=some c∧((∀j,bH s j=false)→c=0):=by
 have hL:=hV.2.1
 unfold pz2a
 refine Or.elim (zj (ρ:=Int) (fun q:Int×Int=> ∃k:Nat,q.1=k∧k≤(n+63)/64∧((∀j,bH s j=false)→q.2=0)) (fun q=>(∀j,bH s j=false)→q.2=0) (fun _=>False) (fun q=>(n+63)/64-q.1.toNat)
  (fun q=>pz29 fuel s q.1 q.2) ?_ fuel (0,0) ⟨0,rfl,by omega,fun _=>rfl⟩ (by simp;omega)) ?_ ?_
 rotate_right
 ·rintro⟨v,_,h⟩;exact h.elim
 ·rintro⟨_,t⟩ ⟨k,rfl,hk,hz⟩
  simp only at hz
  show(∃s',pz29 fuel s (k:Int) t=some (.n s')∧_)∨(∃s',pz29 fuel s (k:Int) t=some (.b s')∧_)∨_
  unfold pz29
  rw[hL]
  by_cases c:k<(n+63)/64
  ·left
   obtain⟨v,hv⟩:=getAt (xs:=s.words) (i:=k) (by omega)
   obtain⟨o1,ho⟩:=ones_tot fuel v
   rw[if_pos (by simp;omega),zS hv]
   simp only[Option.bind_some,ho]
   refine⟨(((k+1:Nat):Int),IntKind.wrap .i64 (t+o1)),by rw[wrap1 (by omega)],⟨k+1,rfl,c,fun h=>?_⟩,by simp;omega⟩
   obtain⟨v0,_⟩:=hV.2.2 v (List.mem_of_getElem? hv)
   have hv0:v.toNat=0:=Nat.eq_of_testBit_eq fun b=>by rw[word_bit hV hv,h];simp
   have:v=0:=by omega
   subst this
   rw[ones_zero] at ho
   cases ho
   rw[hz h]
   show IntKind.wrap .i64 (0+0)=0
   decide+kernel
  ·right;left
   exact⟨((k:Int),t),by rw[if_neg (by simp;omega)],hz⟩
 ·rintro⟨⟨z,t⟩,h1,h⟩
  simp only[h1,bindE]
  exact⟨t,rfl,h⟩
end count
end Go.Proofs.Ytoojnagdenoknaa.PL
set_option linter.unusedVariables false
set_option linter.unusedSectionVars false
set_option linter.unusedSimpArgs false
namespace Go.Proofs.Ytoojnagdenoknaa.PL
open Go
theorem works21:pz2d 1152921504606846976=some true:=by decide+kernel
section inner
variable {f:Fnc} {l:zM} {fuel:Nat} (hn:fOk f) (hs:f.blocks.length≤1000) (hf:17592186044416<fuel) (hN:l.n=(f.blocks.length:Int)) (hL:LM f (EE f) l.body)
structure BD (f:Fnc) (l:zM) (fuel:Nat) (h:Nat) (s:zC) (c:Int):Prop where
 get:mget l.body (h:Int)=some s
 body:pz27 fuel l (h:Int)=some s
 v:bV s f.blocks.length
 bit: ∀j:Nat,j<f.blocks.length→bH s j=inB f h j
 far: ∀j:Nat,f.blocks.length≤j→bH s j=false
 cnt:pz2a fuel s=some c
include hn hs hf hL in
theorem bd_ex{h:Nat}(hb:BE f h): ∃s c,BD f l fuel h s c:=by
 obtain⟨s,k1,k2,k3,k4,k5⟩:=body_at hn hL hb
 obtain⟨c,k6,_⟩:=count_gen k2 (by omega) (fuel:=fuel) (by omega)
 exact⟨s,c,k1,k5 fuel,k2,k3,k4,k6⟩
theorem BD.same{h:Nat}{s s':zC}{c c':Int}(a:BD f l fuel h s c)(b:BD f l fuel h s' c'):s=s'∧c=c':=by
 have h1:=a.get
 rw[b.get] at h1
 cases h1
 have h2:=a.cnt
 rw[b.cnt] at h2
 cases h2
 exact⟨rfl,rfl⟩
theorem BD.has(hn:fOk f){h:Nat}{s:zC}{c:Int}(a:BD f l fuel h s c)(i:Int):pzk fuel s i=some (hasI f h i):=has_body hn a.v a.bit fuel i
def INN(f:Fnc)(l:zM)(fuel:Nat)(i:Int)(hs:List Nat)(b:Int):Prop:=
 (b= -1∧ ∀h∈hs,hasI f h i=false)∨ ∃(H:Nat) (s:zC) (c:Int),b=(H:Int)∧H∈hs∧BD f l fuel H s c∧hasI f H i=true∧ ∀h∈hs,hasI f h i=true→ ∀s' c',BD f l fuel h s' c'→c≤c'
include hn hs hf hN hL in
theorem inner_ok(i:Int): ∃b,pz2c fuel l i=some b∧INN f l fuel i (HN f) b:=by
 have hn1:=hn.1
 have hhl:=HN_len f
 have hel:(embN (HN f)).length=(HN f).length:=by simp[embN]
 unfold pz2c
 rw[heads_ok hn hL,Option.bind_some]
 refine Or.elim (zj (ρ:=Int) (fun q:Int×Int=> ∃k:Nat,q.1=k∧k≤(HN f).length∧INN f l fuel i ((HN f).take k) q.2) (fun q=>INN f l fuel i (HN f) q.2) (fun _=>False) (fun q=>(HN f).length-q.1.toNat)
  (fun q=>pz2b fuel l i (embN (HN f)) q.1 q.2) ?_ fuel (0,-1) ⟨0,rfl,by omega,.inl ⟨rfl,by simp⟩⟩ (by simp;omega)) ?_ ?_
 rotate_right
 ·rintro⟨v,_,h⟩;exact h.elim
 ·rintro⟨_,b⟩ ⟨k,rfl,hk,hI⟩
  simp only at hI
  show(∃s',pz2b fuel l i (embN (HN f)) (k:Int) b=some (.n s')∧_)∨(∃s',pz2b fuel l i (embN (HN f)) (k:Int) b=some (.b s')∧_)∨_
  unfold pz2b
  rw[hel]
  by_cases c:k<(HN f).length
  ·left
   obtain⟨h,hh⟩:=getAt c
   have hx:(embN (HN f))[k]?=some (h:Int):=by simp only[embN,List.getElem?_map,hh,Option.map_some]
   obtain⟨s,ct,hB⟩:=bd_ex (fuel:=fuel) hn hs hf hL ((HN_mem hn).1 (List.mem_of_getElem? hh))
   have htk:(HN f).take (k+1)=(HN f).take k++[h]:=by rw[List.take_add_one,hh];rfl
   have fin: ∀v:Int,INN f l fuel i ((HN f).take (k+1)) v→(∃s',some (Ex.n (IntKind.wrap .i64 ((k:Int)+1),v):Ex (Int×Int) Int)=some (.n s')∧(∃k':Nat,s'.1=k'∧k'≤(HN f).length∧INN f l fuel i ((HN f).take k') s'.2)∧(HN f).length-s'.1.toNat<(HN f).length-((k:Int),b).1.toNat):=by
    intro v hv
    exact⟨(((k+1:Nat):Int),v),by rw[wrap1 (by omega)],⟨k+1,rfl,c,hv⟩,by simp;omega⟩
   rw[if_pos (by simp;omega),zS hx]
   simp only[Option.bind_some,hB.get,hB.has hn]
   cases hb:hasI f h i with
   |false=>
    simp only[Bool.false_eq_true,if_false,Option.bind_some]
    refine fin b ?_
    rw[htk]
    rcases hI with ⟨e,h1⟩|⟨H,s',c',e,h1,h2,h3,h4⟩
    ·refine .inl ⟨e,fun h' hm=>?_⟩
     rcases List.mem_append.1 hm with hm|hm
     ·exact h1 h' hm
     ·rw[List.mem_singleton.1 hm];exact hb
    ·refine .inr ⟨H,s',c',e,List.mem_append_left _ h1,h2,h3,fun h' hm ht=>?_⟩
     rcases List.mem_append.1 hm with hm|hm
     ·exact h4 h' hm ht
     ·rw[List.mem_singleton.1 hm,hb] at ht;cases ht
   |true=>
    rcases hI with ⟨rfl,h1⟩|⟨H,s',c',rfl,h1,h2,h3,h4⟩
    ·simp only[if_true,show decide ((-1:Int)<0)=true from rfl,Option.bind_some]
     refine fin _ ?_
     rw[htk]
     refine .inr ⟨h,s,ct,rfl,by simp,hB,hb,fun h' hm ht s2 c2 hB2=>?_⟩
     rcases List.mem_append.1 hm with hm|hm
     ·rw[h1 h' hm] at ht;cases ht
     ·rw[List.mem_singleton.1 hm] at hB2
      rw[(hB.same hB2).2];exact Int.le_refl _
    ·have n0:decide ((H:Int)<0)=false:=decide_eq_false (by omega)
     simp only[if_true,n0,Bool.false_eq_true,if_false,hB.cnt,h2.get,h2.cnt,Option.bind_some]
     by_cases cc:ct≤c'
     ·simp only[cc,decide_true,if_true,Option.bind_some]
      refine fin _ ?_
      rw[htk]
      refine .inr ⟨h,s,ct,rfl,by simp,hB,hb,fun h' hm ht s2 c2 hB2=>?_⟩
      rcases List.mem_append.1 hm with hm|hm
      ·have:=h4 h' hm ht s2 c2 hB2;omega
      ·rw[List.mem_singleton.1 hm] at hB2
       rw[(hB.same hB2).2];exact Int.le_refl _
     ·simp only[cc,decide_false,Bool.false_eq_true,if_false,Option.bind_some]
      refine fin _ ?_
      rw[htk]
      refine .inr ⟨H,s',c',rfl,List.mem_append_left _ h1,h2,h3,fun h' hm ht s2 c2 hB2=>?_⟩
      rcases List.mem_append.1 hm with hm|hm
      ·exact h4 h' hm ht s2 c2 hB2
      ·rw[List.mem_singleton.1 hm] at hB2
       have:=(hB.same hB2).2;omega
  ·right;left
   refine⟨((k:Int),b),by rw[if_neg (by simp;omega)],?_⟩
   rwa [List.take_of_length_le (by omega)] at hI
 ·rintro⟨⟨z,b⟩,h1,h⟩
  simp only[h1,bindE]
  exact⟨b,rfl,h⟩
end inner
theorem law_LoopsNest{f:Fnc}(hn:fOk f)(i:Int):pz2i 1152921504606846976 f i=some true:=by
 have hn1:=hn.1
 obtain⟨b,e0⟩:=large_tot hn 1152921504606846976
 unfold pz2i
 rw[e0,Option.bind_some]
 by_cases c:(b||(decide (40<(f.blocks.length:Int))))=true
 ·rw[if_pos c,works21];rfl
 ·rw[if_neg c]
  have h40:f.blocks.length≤40:=by
   simp only[Bool.or_eq_true,decide_eq_true_eq,not_or] at c
   omega
  obtain⟨g,e1,hg,hg2,h2,h3⟩:=new_f hn (fuel:=1152921504606846976) (by omega)
  obtain⟨l,e2,hN,hL⟩:=loops_new_ok hn (by omega) (fuel:=1152921504606846976) (by omega) hg h2 h3
  have hhl:=HN_len f
  have hel:((embN (HN f)).length:Int)=((HN f).length:Int):=by simp[embN]
  obtain⟨bi,e3,hI⟩:=inner_ok hn (by omega) (fuel:=1152921504606846976) (by omega) hN hL i
  rw[e1,Option.bind_some,e2,Option.bind_some,heads_ok hn hL,Option.bind_some,e3,Option.bind_some,hel]
  refine Or.elim (toE_inv (fun k (n:Int)=>n=((((HN f).take k).countP fun h=>hasI f h i:Nat):Int)) (fun v:Bool=>False) (fun q s=>pz2h 1152921504606846976 i l (embN (HN f)) bi q s) (HN f).length (by omega) (s:=0) (by simp) ?_) ?_ ?_
  ·rintro k _ hk rfl
   left
   unfold pz2h
   obtain⟨h,hh⟩:=getAt hk
   have hx:(embN (HN f))[k]?=some (h:Int):=by simp only[embN,List.getElem?_map,hh,Option.map_some]
   have hm:=List.mem_of_getElem? hh
   have hbe:=(HN_mem hn).1 hm
   obtain⟨s,ct,hB⟩:=bd_ex (fuel:=1152921504606846976) hn (by omega) (by omega) hL hbe
   have hcl:((HN f).take k).countP (fun h=>hasI f h i)≤1048576:=by
    have h1:=List.countP_le_length (p:=fun h=>hasI f h i) (l:=(HN f).take k)
    have h3:((HN f).take k).length≤(HN f).length:=by simp;omega
    omega
   have hb2: ∀q:Nat,q<k→pz2g 1152921504606846976 l (embN (HN f)) s (q:Int)=some (.n ()):=by
    intro q hq
    unfold pz2g
    obtain⟨h',hh'⟩:=getAt (xs:=HN f) (i:=q) (by omega)
    have hx':(embN (HN f))[q]?=some (h':Int):=by simp only[embN,List.getElem?_map,hh',Option.map_some]
    have hbe':=(HN_mem hn).1 (List.mem_of_getElem? hh')
    obtain⟨s',ct',hB'⟩:=bd_ex (fuel:=1152921504606846976) hn (by omega) (by omega) hL hbe'
    obtain⟨a1,sb,a2,a3,a4,_⟩:=and_ok hB.v hB'.v (by omega) (fuel:=1152921504606846976) (by omega)
    obtain⟨cb,b1,b2⟩:=count_gen a3 (by omega) (fuel:=1152921504606846976) (by omega)
    rw[zS hx']
    simp only[Option.bind_some,hB'.body,copy_ok hB.v (by omega),a2,b1,hB.cnt,hB'.cnt]
    have tri:cb=0∨cb=ct∨cb=ct':=by
     by_cases hem: ∃j,bH sb j=true
     ·obtain⟨j,hj⟩:=hem
      rw[a4 j] at hj
      simp only[Bool.and_eq_true,decide_eq_true_eq] at hj
      obtain⟨⟨hj1,hj2⟩,hj3⟩:=hj
      rw[hB.bit j hj3] at hj1
      rw[hB'.bit j hj3] at hj2
      obtain⟨w,_,hP,_⟩:=order_ok hn h2 hg (fuel:=1152921504606846976) (by omega) (by omega)
      rcases nest hP (inB_t.1 hj1) (inB_t.1 hj2) with k1|k1
      ·right;right
       have:sb=s':=bV_ext a3 hB'.v fun t=>by
        rw[a4 t]
        by_cases ht:t<f.blocks.length
        ·rw[hB.bit t ht,hB'.bit t ht]
         cases e:inB f h' t
         ·simp
         ·rw[inB_t.2 (k1 t (inB_t.1 e))];simp[ht]
        ·rw[hB'.far t (by omega)];simp
       rw[this,hB'.cnt] at b1
       exact(Option.some.inj b1).symm
      ·right;left
       have:sb=s:=bV_ext a3 hB.v fun t=>by
        rw[a4 t]
        by_cases ht:t<f.blocks.length
        ·rw[hB.bit t ht,hB'.bit t ht]
         cases e:inB f h t
         ·simp
         ·rw[inB_t.2 (k1 t (inB_t.1 e))];simp[ht]
        ·rw[hB.far t (by omega)];simp
       rw[this,hB.cnt] at b1
       exact(Option.some.inj b1).symm
     ·left
      exact b2 fun j=>by
       cases e:bH sb j
       ·rfl
       ·exact absurd ⟨j,e⟩ hem
    rcases tri with rfl|rfl|rfl
    ·simp
    ·simp only[ne_eq,not_true_eq_false,decide_false,ite_self,Option.bind_some,Bool.false_eq_true,if_false]
    ·by_cases p0:0<cb
     ·by_cases p1:cb=ct
      ·simp[p0,p1]
      ·simp[p0,p1]
     ·simp[p0]
   have in2:toE 0 (k:Int) (fun q _=>pz2g 1152921504606846976 l (embN (HN f)) s q) ()=some (.n ()):=by
    refine Or.elim (toE_inv (fun _ (_:Unit)=>True) (fun v:Ex Int Bool=>False) (fun q _=>pz2g 1152921504606846976 l (embN (HN f)) s q) k (by omega) (s:=()) trivial fun q _ hq _=> .inl ⟨(),hb2 q hq,trivial⟩) ?_ ?_
    ·rintro⟨_,h1,_⟩;exact h1
    ·rintro⟨v,_,h⟩;exact h.elim
   have hcn:((HN f).take (k+1)).countP (fun h=>hasI f h i)=((HN f).take k).countP (fun h=>hasI f h i)+if hasI f h i=true then 1 else 0:=by
    rw[List.take_add_one,hh,Option.toList_some,List.countP_append]
    simp[List.countP_cons]
   rw[zS hx]
   simp only[Option.bind_some,hB.body,hB.has hn]
   cases hb:hasI f h i with
   |false=>
    simp only[Bool.false_eq_true,if_false,bindE,Option.bind_some,in2]
    exact⟨_,rfl,by rw[hcn,hb];simp⟩
   |true=>
    rcases hI with ⟨_,k1⟩|⟨H,s',c',rfl,k1,k2,k3,k4⟩
    ·rw[k1 h hm] at hb;cases hb
    ·have n0:decide ((H:Int)<0)=false:=decide_eq_false (by omega)
     have n1:decide (ct<c')=false:=decide_eq_false (by have:=k4 h hm hb s ct hB;omega)
     simp only[if_true,n0,Bool.false_eq_true,if_false,k2.body,k2.has hn,k3,Bool.not_true,hB.cnt,k2.cnt,n1,Option.bind_some,bindE,in2]
     exact⟨_,rfl,by rw[hcn,hb,wrap1 (by omega)];simp⟩
  ·rintro⟨n,h1,hnv⟩
   rw[List.take_length] at hnv
   rw[h1]
   simp only[bindE,depth_any hn hN hL,Option.bind_some,hnv,decide_true,Bool.true_and]
   have hfin:(decide (0<(((HN f).countP fun h=>hasI f h i:Nat):Int))==decide (0≤bi))=true:=by
    rw[beq_iff_eq,decide_eq_decide]
    rcases hI with ⟨rfl,k1⟩|⟨H,s',c',rfl,k1,k2,k3,k4⟩
    ·have:(HN f).countP (fun h=>hasI f h i)=0:=List.countP_eq_zero.2 fun h hm=>by rw[k1 h hm];simp
     rw[this];omega
    ·have:0<(HN f).countP (fun h=>hasI f h i):=List.countP_pos_iff.2 ⟨H,k1,k3⟩
     omega
   simp only[hfin,if_true,works21,Option.bind_some]
  ·rintro⟨v,_,h⟩;exact h.elim
end Go.Proofs.Ytoojnagdenoknaa.PL
