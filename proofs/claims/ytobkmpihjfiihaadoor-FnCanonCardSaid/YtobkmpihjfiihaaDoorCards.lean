/-
  DERIVED. GIVEN WITH THE SEED: THE CARDS: each row of YtobkmpihjfiihaaDoorRows.lean that lists a variable, with what it lists TIED to the program's text (the seventh form; the later family's looks); each row that meets fmt, with fmt's text TOLD by the authors' own Lean function (tested against real Go, not proved from fmt's source: count such statements apart). THE CARD IS WHAT COUNTS. Prove the row's statement (the work); the ties are given (YtobkmpihjfiihaaDoorTie.lean); close each card by the builder's one call (the guide's Derived/Test/ToyasCard.lean, 'card_holds'). Laid BY PROGRAM, IN A SANDBOX (cutbox-door.mjs). By AI agents, Wed Nov 11 2026. No macro, syntax, notation, axiom, sorry.
-/
import Derived.Test.YtobkmpihjfiihaaDoorRows
import GoSem.ClaimSeven
namespace Go.Proofs.YtobkmpihjfiihaaDoor
namespace Rows

/-- THE TIED CARD OF 'laws.FnExactSha'. -/
def fnExactShaCard : Claim7 := { stood := { row := fnExactShaRow, standIns := [], harness := (true, "36180c3aee55354c964b97fd0ad4f07296ff5bbab308f425e502e840f16c79df"), looks := false }, kinds := [], alts := [], laidByText := true, laidKinds := [.data], laidTests := true, laidLooks := .later }
def FnExactShaCardSaid : Prop := Claim7.holds Tryd.pinned (.plain (OpenSpec.ofChange fnExactShaSpec)) fnExactShaCard

/-- THE TIED CARD OF 'laws.FnSnapBack'. -/
def fnSnapBackCard : Claim7 := { stood := { row := fnSnapBackRow, standIns := [], harness := (true, "36180c3aee55354c964b97fd0ad4f07296ff5bbab308f425e502e840f16c79df"), looks := false }, kinds := [], alts := [], laidByText := true, laidKinds := [.data], laidTests := true, laidLooks := .later }
def FnSnapBackCardSaid : Prop := Claim7.holds Tryd.pinned (.plain (OpenSpec.ofChange fnSnapBackSpec)) fnSnapBackCard

/-- THE TIED CARD OF 'laws.FnExactShowSnap'. -/
def fnExactShowSnapCard : Claim7 := { stood := { row := fnExactShowSnapRow, standIns := [], harness := (true, "36180c3aee55354c964b97fd0ad4f07296ff5bbab308f425e502e840f16c79df"), looks := false }, kinds := [], alts := [], laidByText := true, laidKinds := [.data], laidTests := true, laidLooks := .later }
def FnExactShowSnapCardSaid : Prop := Claim7.holds Tryd.pinned (.plain (OpenSpec.ofChange fnExactShowSnapSpec)) fnExactShowSnapCard

/-- THE TIED CARD OF 'laws.FnExactReadSnap'. -/
def fnExactReadSnapCard : Claim7 := { stood := { row := fnExactReadSnapRow, standIns := [], harness := (true, "36180c3aee55354c964b97fd0ad4f07296ff5bbab308f425e502e840f16c79df"), looks := false }, kinds := [], alts := [], laidByText := true, laidKinds := [.data], laidTests := true, laidLooks := .later }
def FnExactReadSnapCardSaid : Prop := Claim7.holds Tryd.pinned (.plain (OpenSpec.ofChange fnExactReadSnapSpec)) fnExactReadSnapCard

/-- THE TIED CARD OF 'laws.FnExactDigest'. -/
def fnExactDigestCard : Claim7 := { stood := { row := fnExactDigestRow, standIns := [], harness := (true, "36180c3aee55354c964b97fd0ad4f07296ff5bbab308f425e502e840f16c79df"), looks := false }, kinds := [], alts := [], laidByText := true, laidKinds := [.data], laidTests := true, laidLooks := .later }
def FnExactDigestCardSaid : Prop := Claim7.holds Tryd.pinned (.plain (OpenSpec.ofChange fnExactDigestSpec)) fnExactDigestCard

/-- THE TIED CARD OF 'laws.FnCanon'. -/
def fnCanonCard : Claim7 := { stood := { row := fnCanonRow, standIns := [], harness := (true, "36180c3aee55354c964b97fd0ad4f07296ff5bbab308f425e502e840f16c79df"), looks := false }, kinds := [], alts := [], laidByText := true, laidKinds := [.data], laidTests := true, laidLooks := .later }
def FnCanonCardSaid : Prop := Claim7.holds Tryd.pinned (.plain (OpenSpec.ofChange fnCanonSpec)) fnCanonCard

/-- THE SECOND FORM's CARD OF 'laws.FnExactSha'. -/
def fnExactShaUptoCard : Claim7 := { stood := { row := fnExactShaUptoRow, standIns := [], harness := (true, "36180c3aee55354c964b97fd0ad4f07296ff5bbab308f425e502e840f16c79df"), looks := false }, kinds := [], alts := [], laidByText := true, laidKinds := [.data], laidTests := true, laidLooks := .later }
def FnExactShaUptoCardSaid : Prop := Claim7.holds Tryd.pinned (.plain (OpenSpec.upto fnExactShaSpec)) fnExactShaUptoCard

/-- THE SECOND FORM's CARD OF 'laws.FnSnapBack'. -/
def fnSnapBackUptoCard : Claim7 := { stood := { row := fnSnapBackUptoRow, standIns := [], harness := (true, "36180c3aee55354c964b97fd0ad4f07296ff5bbab308f425e502e840f16c79df"), looks := false }, kinds := [], alts := [], laidByText := true, laidKinds := [.data], laidTests := true, laidLooks := .later }
def FnSnapBackUptoCardSaid : Prop := Claim7.holds Tryd.pinned (.plain (OpenSpec.upto fnSnapBackSpec)) fnSnapBackUptoCard

/-- THE SECOND FORM's CARD OF 'laws.FnExactShowSnap'. -/
def fnExactShowSnapUptoCard : Claim7 := { stood := { row := fnExactShowSnapUptoRow, standIns := [], harness := (true, "36180c3aee55354c964b97fd0ad4f07296ff5bbab308f425e502e840f16c79df"), looks := false }, kinds := [], alts := [], laidByText := true, laidKinds := [.data], laidTests := true, laidLooks := .later }
def FnExactShowSnapUptoCardSaid : Prop := Claim7.holds Tryd.pinned (.plain (OpenSpec.upto fnExactShowSnapSpec)) fnExactShowSnapUptoCard

/-- THE SECOND FORM's CARD OF 'laws.FnExactReadSnap'. -/
def fnExactReadSnapUptoCard : Claim7 := { stood := { row := fnExactReadSnapUptoRow, standIns := [], harness := (true, "36180c3aee55354c964b97fd0ad4f07296ff5bbab308f425e502e840f16c79df"), looks := false }, kinds := [], alts := [], laidByText := true, laidKinds := [.data], laidTests := true, laidLooks := .later }
def FnExactReadSnapUptoCardSaid : Prop := Claim7.holds Tryd.pinned (.plain (OpenSpec.upto fnExactReadSnapSpec)) fnExactReadSnapUptoCard

/-- THE SECOND FORM's CARD OF 'laws.FnExactDigest'. -/
def fnExactDigestUptoCard : Claim7 := { stood := { row := fnExactDigestUptoRow, standIns := [], harness := (true, "36180c3aee55354c964b97fd0ad4f07296ff5bbab308f425e502e840f16c79df"), looks := false }, kinds := [], alts := [], laidByText := true, laidKinds := [.data], laidTests := true, laidLooks := .later }
def FnExactDigestUptoCardSaid : Prop := Claim7.holds Tryd.pinned (.plain (OpenSpec.upto fnExactDigestSpec)) fnExactDigestUptoCard

/-- THE SECOND FORM's CARD OF 'laws.FnCanon'. -/
def fnCanonUptoCard : Claim7 := { stood := { row := fnCanonUptoRow, standIns := [], harness := (true, "36180c3aee55354c964b97fd0ad4f07296ff5bbab308f425e502e840f16c79df"), looks := false }, kinds := [], alts := [], laidByText := true, laidKinds := [.data], laidTests := true, laidLooks := .later }
def FnCanonUptoCardSaid : Prop := Claim7.holds Tryd.pinned (.plain (OpenSpec.upto fnCanonSpec)) fnCanonUptoCard
end Rows
end Go.Proofs.YtobkmpihjfiihaaDoor
